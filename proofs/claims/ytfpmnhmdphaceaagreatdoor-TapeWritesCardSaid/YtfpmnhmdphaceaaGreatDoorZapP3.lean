/- A part of this claim: laws of the tape's functions and of plain lists; no conditions beyond those that the theorems name. -/
import Derived.Test.YtfpmnhmdphaceaaGreatDoorZapLAll
import Derived.Test.YtfpmnhmdphaceaaGreatDoorZap27
namespace Go.Proofs.YtfpmnhmdphaceaaGreatDoor
open Go.EW
set_option linter.unusedVariables false
set_option linter.unusedSimpArgs false
theorem rInts_good {b : List UInt8} {s : Rs} : ∀ i, (rInts b s i).2.err = 0 → Good b s (natsB (rInts b s i).1) (rInts b s i).2
  | 0, h => Good.refl h
  | i + 1, h => by
    rw [rInts] at h ⊢
    have g := rInt_good h
    have ih := rInts_good i g.e0
    have e : natsB ((rInts b s i).1 ++ [(rInt b maxI (rInts b s i).2).1]) = natsB (rInts b s i).1 ++ formL (rInt b maxI (rInts b s i).2).1 := by
      unfold natsB; rw [List.flatMap_append, List.flatMap_cons, List.flatMap_nil, List.append_nil]
    simp only []
    rw [e]
    exact ih.trans g
theorem ego_good {b : List UInt8} {s : Rs} : ∀ {i : Nat} {l ts s'}, ego b s i = some (l, ts, s') → s'.err = 0 → Good b s (catL ts) s' ∧ ts = l.map (fun e => (putEv e).1) ∧ ∀ e ∈ l, (putEv e).2 = 0
  | 0, l, ts, s', h, he => by
    rw [ego] at h
    obtain ⟨rfl, rfl, rfl⟩ := by simpa using h
    exact ⟨Good.refl he, rfl, fun e h => absurd h (by simp)⟩
  | i + 1, l, ts, s', h, he => by
    rw [ego] at h
    cases hg : ego b s i with
    | none => rw [hg] at h; cases h
    | some x =>
      obtain ⟨l1, t1, s1⟩ := x
      rw [hg] at h
      simp only [] at h
      split at h
      · cases h
      rename_i hz
      obtain ⟨rfl, rfl, rfl⟩ := by simpa using h
      have g := rText_good he
      obtain ⟨ih, e1, e2⟩ := ego_good hg g.e0
      have hev := (getEv_good (b := (rText b 32768 s1).1) (by simpa using hz)).1
      refine ⟨?_, ?_, ?_⟩
      · rw [cat_snoc, List.append_assoc]; exact ih.trans g
      · rw [List.map_append, e1]
        show _ = _ ++ [(putEv (getEv (rText b 32768 s1).1).1).1]
        rw [hev]
      intro e hm
      rcases List.mem_append.1 hm with hm | hm
      · exact e2 e hm
      rw [List.mem_singleton.1 hm, hev]
/-- a chunk's body is the body of its texts -/
theorem eventsR_good {b : List UInt8} (h : (eventsR b).2.2.2 = true) : b = chunkB (eventsR b).1 (eventsR b).2.2.1 ∧ (eventsR b).2.2.1 = (eventsR b).2.1.map (fun e => (putEv e).1) ∧ ∀ e ∈ (eventsR b).2.1, (putEv e).2 = 0 := by
  unfold eventsR at h ⊢
  split at h
  · cases h
  rename_i hk
  rw [if_neg hk]
  cases hg : ego b (rInts b ⟨0, 0⟩ 3).2 ((rInts b ⟨0, 0⟩ 3).1.getD 2 0) with
  | none => rw [hg] at h; cases h
  | some x =>
    obtain ⟨l, ts, s⟩ := x
    rw [hg] at h
    simp only [] at h ⊢
    obtain ⟨he, hd⟩ := rEnd_good (of_decide_eq_true h)
    obtain ⟨g, e1, e2⟩ := ego_good hg he
    have g3 := rInts_good 3 g.e0
    have gl := (ego_len hg).2.1
    refine ⟨?_, e1, e2⟩
    have hc := (g3.trans g).cut
    rw [hd, List.append_nil] at hc
    have hl3 := rInts_len b ⟨0, 0⟩ 3
    generalize (rInts b ⟨0, 0⟩ 3).1 = l3 at *
    match l3, hl3 with
    | [x, y, z], _ =>
      have hx : x = 2 := by
        refine Decidable.byContradiction fun hne => hk (.inl ?_)
        exact hne
      subst hx
      have hz : z = ts.length := gl.symm
      subst hz
      have : b = natsB [2, y, ts.length] ++ catL ts := hc
      rw [this]
      unfold chunkB natsB
      simp
end Go.Proofs.YtfpmnhmdphaceaaGreatDoor
