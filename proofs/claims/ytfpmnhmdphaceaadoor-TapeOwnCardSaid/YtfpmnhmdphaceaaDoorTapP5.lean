/- One form: what is read is what would be written, in plain lists. -/
import Derived.Test.YtfpmnhmdphaceaaDoorTapP4
namespace Go.Proofs.YtfpmnhmdphaceaaDoor
open Go.EW
set_option linter.unusedVariables false
set_option linter.unusedSimpArgs false
attribute [local irreducible] sealL openR sealR crcL shaL
def NumOk (e : Evt) : Prop := ∀ j, j < 6 → 0 ≤ e.num j ∧ e.num j ≤ 9223372036854775807
theorem ggo_num (b : List UInt8) (u : Nat) (st : Evt × Rs) (h0 : NumOk st.1) : ∀ i, i ≤ 6 → NumOk (ggo b u st i).1
  | 0, _ => h0
  | i + 1, h => fun j hj => by
    rw [ggo, gnum]
    split
    · rw [num_put _ _ hj (by omega)]
      split
      · have := rInt_le (b := b) (m := maxI) (s := (ggo b u st i).2)
        have hm : maxI = 9223372036854775807 := rfl
        omega
      exact ggo_num b u st h0 i (by omega) j hj
    exact ggo_num b u st h0 i (by omega) j hj
theorem num_all {e : Evt} (h : NumOk e) : ∀ i, -9223372036854775808 ≤ e.num i ∧ e.num i ≤ 9223372036854775807 := fun i => by
  rcases Nat.lt_or_ge i 6 with h1 | h1
  · have := h i h1; omega
  have h5 := h 5 (by decide)
  have : e.num i = e.num 5 := by
    obtain ⟨k, rfl⟩ : ∃ k, i = k + 6 := ⟨i - 6, by omega⟩
    rfl
  rw [this]; omega
theorem evt0_num (k : Int) : NumOk { evt0 with k := k } := fun j hj => by
  have h0 : (0 : Int) ≤ 9223372036854775807 := by decide
  rcases six hj with rfl | rfl | rfl | rfl | rfl | rfl <;> exact ⟨Int.le_refl _, h0⟩
theorem evt0_ok : EvOk evt0 := ⟨num_all (evt0_num 0), by decide, by decide, Nat.zero_le _, Nat.zero_le _⟩
theorem getEv_ok (b : List UInt8) : EvOk (getEv b).1 := by
  unfold getEv
  split
  · exact evt0_ok
  split
  · exact evt0_ok
  split
  · exact evt0_ok
  simp only []
  unfold gall
  generalize usesN (gkind b) = u
  have hn := ggo_num b u ({ evt0 with k := gkind b }, (rInt b maxI ⟨0, 0⟩).2) (evt0_num _) 6 (Nat.le_refl _)
  have hk : (ggo b u ({ evt0 with k := gkind b }, (rInt b maxI ⟨0, 0⟩).2) 6).1.hi = 0 ∧ (ggo b u ({ evt0 with k := gkind b }, (rInt b maxI ⟨0, 0⟩).2) 6).1.lo = 0 ∧ (ggo b u ({ evt0 with k := gkind b }, (rInt b maxI ⟨0, 0⟩).2) 6).1.ok = 0 ∧ (ggo b u ({ evt0 with k := gkind b }, (rInt b maxI ⟨0, 0⟩).2) 6).1.os = 0 ∧ (ggo b u ({ evt0 with k := gkind b }, (rInt b maxI ⟨0, 0⟩).2) 6).1.ov = ⟨#[]⟩ ∧ (ggo b u ({ evt0 with k := gkind b }, (rInt b maxI ⟨0, 0⟩).2) 6).1.bs = [] := by
    have hp : ∀ (e : Evt) (j : Nat) (v : Int), j < 6 → (e.put j v).hi = e.hi ∧ (e.put j v).lo = e.lo ∧ (e.put j v).ok = e.ok ∧ (e.put j v).os = e.os ∧ (e.put j v).ov = e.ov ∧ (e.put j v).bs = e.bs := fun e j v hj => by
      rcases six hj with rfl | rfl | rfl | rfl | rfl | rfl <;> exact ⟨rfl, rfl, rfl, rfl, rfl, rfl⟩
    have : ∀ i, i ≤ 6 → ∀ st : Evt × Rs, (ggo b u st i).1.hi = st.1.hi ∧ (ggo b u st i).1.lo = st.1.lo ∧ (ggo b u st i).1.ok = st.1.ok ∧ (ggo b u st i).1.os = st.1.os ∧ (ggo b u st i).1.ov = st.1.ov ∧ (ggo b u st i).1.bs = st.1.bs := by
      intro i
      induction i with
      | zero => intro _ st; exact ⟨rfl, rfl, rfl, rfl, rfl, rfl⟩
      | succ i ih =>
        intro hi st
        obtain ⟨a1, a2, a3, a4, a5, a6⟩ := ih (by omega) st
        rw [ggo, gnum]
        split
        · obtain ⟨c1, c2, c3, c4, c5, c6⟩ := hp (ggo b u st i).1 i (rInt b maxI (ggo b u st i).2).1 (by omega)
          exact ⟨c1.trans a1, c2.trans a2, c3.trans a3, c4.trans a4, c5.trans a5, c6.trans a6⟩
        exact ⟨a1, a2, a3, a4, a5, a6⟩
    exact this 6 (Nat.le_refl _) _
  generalize ggo b u ({ evt0 with k := gkind b }, (rInt b maxI ⟨0, 0⟩).2) 6 = s6 at *
  have k7 := gdr_keep b u s6
  have d7 : (gdr b u s6).1.hi < 18446744073709551616 ∧ (gdr b u s6).1.lo < 18446744073709551616 ∧ (gdr b u s6).1.ok = 0 ∧ (gdr b u s6).1.os = 0 ∧ (gdr b u s6).1.ov = ⟨#[]⟩ ∧ (gdr b u s6).1.bs = [] := by
    unfold gdr
    split
    · exact ⟨rNum_lt, rNum_lt, hk.2.2.1, hk.2.2.2.1, hk.2.2.2.2.1, hk.2.2.2.2.2⟩
    rw [hk.1, hk.2.1]; exact ⟨by decide, by decide, hk.2.2.1, hk.2.2.2.1, hk.2.2.2.2.1, hk.2.2.2.2.2⟩
  generalize gdr b u s6 = s7 at *
  have k8 := gop_keep b u s7
  have d8 : (gop b u s7).1.ok ≤ 9223372036854775807 ∧ (gop b u s7).1.os ≤ 9223372036854775807 ∧ (gop b u s7).1.ov.size ≤ 64 ∧ (gop b u s7).1.bs = [] := by
    have hm : maxI = 9223372036854775807 := rfl
    have h1 := rInt_le (b := b) (m := maxI) (s := s7.2)
    have h2 := rInt_le (b := b) (m := maxI) (s := (rInt b maxI s7.2).2)
    unfold gop
    split
    · exact ⟨by simp only []; omega, by simp only []; omega, (rText_len (b := b) (m := 64) (s := (rInt b maxI (rInt b maxI s7.2).2).2)).1, d7.2.2.2.2.2⟩
    rw [d7.2.2.1, d7.2.2.2.1, d7.2.2.2.2.1]; exact ⟨by decide, by decide, Nat.zero_le _, d7.2.2.2.2.2⟩
  generalize gop b u s7 = s8 at *
  have k9 := gby_keep b u s8
  have d9 : (gby b u s8).1.bs.length ≤ 16384 := by
    unfold gby
    split
    · exact (rText_len (b := b) (m := 16384) (s := s8.2)).1
    rw [d8.2.2.2]; exact Nat.zero_le _
  generalize gby b u s8 = s9 at *
  refine ⟨num_all (fun j hj => by rw [k9.2.1, k8.2.1, k7.2]; exact hn j hj), ?_, ?_, ?_, by omega⟩
  · rw [k9.2.2.2.2.1, k9.2.2.2.2.2.1]; exact ⟨d8.1, d8.2.1⟩
  · rw [k9.2.2.1, k9.2.2.2.1, k8.2.2.1, k8.2.2.2]; exact ⟨d7.1, d7.2.1⟩
  rw [k9.2.2.2.2.2.2]; omega
theorem ego_evok {b : List UInt8} {s : Rs} : ∀ {i : Nat} {l ts s'}, ego b s i = some (l, ts, s') → ∀ e ∈ l, EvOk e
  | 0, l, ts, s', h => by
    rw [ego] at h
    obtain ⟨rfl, rfl, rfl⟩ := by simpa using h
    intro e he; exact absurd he (by simp)
  | i + 1, l, ts, s', h => by
    rw [ego] at h
    cases hg : ego b s i with
    | none => rw [hg] at h; cases h
    | some x =>
      obtain ⟨l1, t1, s1⟩ := x
      rw [hg] at h
      simp only [] at h
      split at h
      · cases h
      obtain ⟨rfl, rfl, rfl⟩ := by simpa using h
      intro e he
      rcases List.mem_append.1 he with he | he
      · exact ego_evok hg e he
      rw [List.mem_singleton.1 he]; exact getEv_ok _
theorem eventsR_evok (b : List UInt8) : ∀ e ∈ (eventsR b).2.1, EvOk e := by
  unfold eventsR
  split
  · intro e he; exact absurd he (by simp)
  cases hg : ego b (rInts b ⟨0, 0⟩ 3).2 ((rInts b ⟨0, 0⟩ 3).1.getD 2 0) with
  | none => intro e he; exact absurd he (by simp)
  | some x => obtain ⟨l, ts, s⟩ := x; exact ego_evok hg
end Go.Proofs.YtfpmnhmdphaceaaDoor
