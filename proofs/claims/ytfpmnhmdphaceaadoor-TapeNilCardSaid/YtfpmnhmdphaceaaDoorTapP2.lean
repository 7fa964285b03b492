/- One form: what is read is what would be written, in plain lists. -/
import Derived.Test.YtfpmnhmdphaceaaDoorTapP1
namespace Go.Proofs.YtfpmnhmdphaceaaDoor
open Go.EW
set_option linter.unusedVariables false
set_option linter.unusedSimpArgs false
theorem six {i : Nat} (h : i < 6) : i = 0 ∨ i = 1 ∨ i = 2 ∨ i = 3 ∨ i = 4 ∨ i = 5 := by omega
theorem num_put (e : Evt) (v : Int) {i j : Nat} (hi : i < 6) (hj : j < 6) : (e.put j v).num i = if i = j then v else e.num i := by
  rcases six hi with rfl | rfl | rfl | rfl | rfl | rfl <;> rcases six hj with rfl | rfl | rfl | rfl | rfl | rfl <;> rfl
theorem k_put (e : Evt) (v : Int) {j : Nat} (hj : j < 6) : (e.put j v).k = e.k := by
  rcases six hj with rfl | rfl | rfl | rfl | rfl | rfl <;> rfl
theorem pgo_congr {e f : Evt} (u : Nat) (hk : e.k = f.k) : ∀ i, (∀ j, j < i → e.num j = f.num j) → pgo e u i = pgo f u i
  | 0, _ => by rw [pgo, pgo, hk]
  | i + 1, h => by rw [pgo, pgo, pgo_congr u hk i (fun j hj => h j (by omega)), h i (by omega)]
theorem negN_false {e : Evt} (u : Nat) : ∀ i, (∀ j, j < i → 0 ≤ e.num j) → negN e u i = false
  | 0, _ => rfl
  | i + 1, h => by
    rw [negN, negN_false u i (fun j hj => h j (by omega)), Bool.false_or, decide_eq_false (by have := h i (by omega); omega), Bool.and_false]
theorem ggo_k (b : List UInt8) (u : Nat) (st : Evt × Rs) : ∀ i, i ≤ 6 → (ggo b u st i).1.k = st.1.k
  | 0, _ => rfl
  | i + 1, h => by
    rw [ggo, gnum]
    split
    · rw [k_put _ _ (by omega), ggo_k b u st i (by omega)]
    · exact ggo_k b u st i (by omega)
theorem ggo_nn (b : List UInt8) (u : Nat) (st : Evt × Rs) (h0 : ∀ j, j < 6 → 0 ≤ st.1.num j) : ∀ i, i ≤ 6 → ∀ j, j < 6 → 0 ≤ (ggo b u st i).1.num j
  | 0, _ => h0
  | i + 1, h => fun j hj => by
    rw [ggo, gnum]
    split
    · rw [num_put _ _ hj (by omega)]
      split
      · omega
      · exact ggo_nn b u st h0 i (by omega) j hj
    · exact ggo_nn b u st h0 i (by omega) j hj
theorem ggo_good {b : List UInt8} {u : Nat} {st : Evt × Rs} {s0 : Rs} (h0 : st.2.err = 0 → Good b s0 (formL st.1.k.toNat) st.2) : ∀ i, i ≤ 6 → (ggo b u st i).2.err = 0 → Good b s0 (pgo (ggo b u st i).1 u i) (ggo b u st i).2
  | 0, _, h => h0 h
  | i + 1, hi, h => by
    rw [ggo, gnum] at h ⊢
    rw [pgo]
    split
    · rename_i hb
      rw [if_pos hb] at h
      have hg := rInt_good h
      have ih := ggo_good h0 i (by omega) hg.e0
      have e1 : pgo ((ggo b u st i).1.put i (rInt b maxI (ggo b u st i).2).1) u i = pgo (ggo b u st i).1 u i :=
        pgo_congr u (k_put _ _ (by omega)) i (fun j hj => by rw [num_put _ _ (by omega) (by omega), if_neg (by omega)])
      have e2 : ((ggo b u st i).1.put i (rInt b maxI (ggo b u st i).2).1).num i = ((rInt b maxI (ggo b u st i).2).1 : Int) := by
        rw [num_put _ _ (by omega) (by omega), if_pos rfl]
      simp only []
      rw [e1, e2, Int.toNat_natCast]
      exact ih.trans hg
    · rename_i hb
      rw [if_neg hb] at h
      rw [List.append_nil]
      exact ggo_good h0 i (by omega) h
theorem gkind_ok {b : List UInt8} (h : usesN (gkind b) ≠ 0) : gkind b = ((rInt b maxI ⟨0, 0⟩).1 : Int) := by
  unfold gkind at h ⊢
  split
  · rfl
  · rename_i h1
    rw [if_neg h1] at h
    exact absurd rfl h
theorem gdr_good {b : List UInt8} {u : Nat} {st : Evt × Rs} {s0 : Rs} {x : List UInt8} (h0 : st.2.err = 0 → Good b s0 x st.2) (h : (gdr b u st).2.err = 0) : Good b s0 (x ++ pdr (gdr b u st).1 u) (gdr b u st).2 := by
  unfold gdr at h ⊢
  unfold pdr
  split
  · rename_i hb
    rw [if_pos hb] at h
    have g2 := rNum_good h
    have g1 := rNum_good g2.e0
    exact (h0 g1.e0).trans (g1.trans g2)
  · rename_i hb
    rw [if_neg hb] at h
    rw [List.append_nil]; exact h0 h
theorem gop_good {b : List UInt8} {u : Nat} {st : Evt × Rs} {s0 : Rs} {x : List UInt8} (h0 : st.2.err = 0 → Good b s0 x st.2) (h : (gop b u st).2.err = 0) : Good b s0 (x ++ pop (gop b u st).1 u) (gop b u st).2 := by
  unfold gop at h ⊢
  unfold pop
  split
  · rename_i hb
    rw [if_pos hb] at h
    have g3 := rText_good h
    have g2 := rInt_good g3.e0
    have g1 := rInt_good g2.e0
    exact (h0 g1.e0).trans ((g1.trans g2).trans g3)
  · rename_i hb
    rw [if_neg hb] at h
    rw [List.append_nil]; exact h0 h
theorem gby_good {b : List UInt8} {u : Nat} {st : Evt × Rs} {s0 : Rs} {x : List UInt8} (h0 : st.2.err = 0 → Good b s0 x st.2) (h : (gby b u st).2.err = 0) : Good b s0 (x ++ pby (gby b u st).1 u) (gby b u st).2 := by
  unfold gby at h ⊢
  unfold pby
  split
  · rename_i hb
    rw [if_pos hb] at h
    exact (h0 (rText_err h)).trans (rText_good h)
  · rename_i hb
    rw [if_neg hb] at h
    rw [List.append_nil]; exact h0 h
theorem gdr_keep (b : List UInt8) (u : Nat) (st : Evt × Rs) : (gdr b u st).1.k = st.1.k ∧ ∀ j, (gdr b u st).1.num j = st.1.num j := by
  unfold gdr; split <;> exact ⟨rfl, fun j => by unfold Evt.num; split <;> rfl⟩
theorem gop_keep (b : List UInt8) (u : Nat) (st : Evt × Rs) : (gop b u st).1.k = st.1.k ∧ (∀ j, (gop b u st).1.num j = st.1.num j) ∧ (gop b u st).1.hi = st.1.hi ∧ (gop b u st).1.lo = st.1.lo := by
  unfold gop; split <;> exact ⟨rfl, fun j => by unfold Evt.num; split <;> rfl, rfl, rfl⟩
theorem gby_keep (b : List UInt8) (u : Nat) (st : Evt × Rs) : (gby b u st).1.k = st.1.k ∧ (∀ j, (gby b u st).1.num j = st.1.num j) ∧ (gby b u st).1.hi = st.1.hi ∧ (gby b u st).1.lo = st.1.lo ∧ (gby b u st).1.ok = st.1.ok ∧ (gby b u st).1.os = st.1.os ∧ (gby b u st).1.ov = st.1.ov := by
  unfold gby; split <;> exact ⟨rfl, fun j => by unfold Evt.num; split <;> rfl, rfl, rfl, rfl, rfl, rfl⟩
theorem gop_op (b : List UInt8) (u : Nat) (st : Evt × Rs) (h : bitN u 7 = true) : 0 ≤ (gop b u st).1.ok ∧ 0 ≤ (gop b u st).1.os ∧ (gop b u st).1.ov.size ≤ 64 := by
  unfold gop
  rw [if_pos h]
  exact ⟨by simp only []; omega, by simp only []; omega, (rText_len (b := b) (m := 64) (s := (rInt b maxI (rInt b maxI st.2).2).2)).1⟩
theorem gby_bs (b : List UInt8) (u : Nat) (st : Evt × Rs) (h : bitN u 8 = true) : (gby b u st).1.bs.length ≤ 16384 := by
  unfold gby
  rw [if_pos h]
  exact (rText_len (b := b) (m := 16384) (s := st.2)).1
/-- an event that is read is one whose bytes these are -/
theorem getEv_good {b : List UInt8} (h : (getEv b).2 = 0) : putEv (getEv b).1 = (b, 0) ∧ usesN (getEv b).1.k ≠ 0 := by
  unfold getEv at h ⊢
  split at h
  · rename_i h1
    have hr := rEnd_good h
    have hg := rInt_good hr.1
    have := hg.at_
    rw [h1] at this
    unfold formL at this
    simp at this
  · rename_i h1
    split at h
    · cases h
    · rename_i h2
      split at h
      · rename_i h3; exact absurd h h3
      · rename_i h3
        simp only [h1, h2, h3, if_false]
        have h3' : rEnd b (gall b).2 = 0 := by simpa using h3
        obtain ⟨he, hd⟩ := rEnd_good h3'
        have hk := gkind_ok h2
        generalize hu : usesN (gkind b) = u at *
        have hs : gall b = gby b u (gop b u (gdr b u (ggo b u ({ evt0 with k := gkind b }, (rInt b maxI ⟨0, 0⟩).2) 6))) := by unfold gall; rw [hu]
        rw [hs] at he hd ⊢
        have g0 : ∀ i, i ≤ 6 → _ := ggo_good (b := b) (u := u) (st := ({ evt0 with k := gkind b }, (rInt b maxI ⟨0, 0⟩).2)) (s0 := ⟨0, 0⟩) (fun hh => by
          have := rInt_good hh
          show Good b ⟨0, 0⟩ (formL (gkind b).toNat) _
          rw [hk, Int.toNat_natCast]; exact this)
        have hk6 := ggo_k b u ({ evt0 with k := gkind b }, (rInt b maxI ⟨0, 0⟩).2) 6 (Nat.le_refl _)
        have hn6 := ggo_nn b u ({ evt0 with k := gkind b }, (rInt b maxI ⟨0, 0⟩).2) (fun j hj => by rcases six hj with rfl | rfl | rfl | rfl | rfl | rfl <;> exact Int.le_refl _) 6 (Nat.le_refl _)
        have g6 := g0 6 (Nat.le_refl _)
        generalize ggo b u ({ evt0 with k := gkind b }, (rInt b maxI ⟨0, 0⟩).2) 6 = s6 at *
        have g7 := fun hh => gdr_good (b := b) (u := u) (st := s6) (s0 := ⟨0, 0⟩) g6 hh
        have k7 := gdr_keep b u s6
        generalize gdr b u s6 = s7 at *
        have g8 := fun hh => gop_good (b := b) (u := u) (st := s7) (s0 := ⟨0, 0⟩) g7 hh
        have k8 := gop_keep b u s7
        have o8 := gop_op b u s7
        generalize gop b u s7 = s8 at *
        have g9 := fun hh => gby_good (b := b) (u := u) (st := s8) (s0 := ⟨0, 0⟩) g8 hh
        have k9 := gby_keep b u s8
        have o9 := gby_bs b u s8
        generalize gby b u s8 = s9 at *
        have hkk : s9.1.k = gkind b := by rw [k9.1, k8.1, k7.1, hk6]
        have hgo := (g9 he).cut
        rw [hd, List.append_nil] at hgo
        have hpg : pgo s6.1 u 6 = pgo s9.1 u 6 := pgo_congr u (by rw [k9.1, k8.1, k7.1]) 6 (fun j _ => by rw [k9.2.1, k8.2.1, k7.2])
        have hpd : pdr s7.1 u = pdr s9.1 u := by unfold pdr; rw [k9.2.2.1, k9.2.2.2.1, k8.2.2.1, k8.2.2.2]
        have hpo : pop s8.1 u = pop s9.1 u := by unfold pop; rw [k9.2.2.2.2.1, k9.2.2.2.2.2.1, k9.2.2.2.2.2.2]
        rw [hpg, hpd, hpo] at hgo
        refine ⟨?_, by rw [hkk, hu]; exact h2⟩
        unfold putEv
        rw [hkk, hu, if_neg h2, if_neg (by rw [negN_false u 6 (fun j hj => by rw [k9.2.1, k8.2.1, k7.2]; exact hn6 j hj)]; decide),
          if_neg (fun ⟨hb, hx⟩ => by have := o8 hb; rw [k9.2.2.2.2.1, k9.2.2.2.2.2.1] at hx; omega),
          if_neg (by
            rintro (⟨hb, hx⟩ | ⟨hb, hx⟩)
            · have := o8 hb; rw [k9.2.2.2.2.2.2] at hx; omega
            · have := o9 hb; omega), ← hgo]
        rfl
end Go.Proofs.YtfpmnhmdphaceaaDoor
