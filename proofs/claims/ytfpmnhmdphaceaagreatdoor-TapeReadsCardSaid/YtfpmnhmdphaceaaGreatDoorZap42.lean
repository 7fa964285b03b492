/- A part of this claim: laws of the tape's functions and of plain lists; no conditions beyond those that the theorems name. -/
import Derived.Test.YtfpmnhmdphaceaaGreatDoorZap41
namespace Go.Proofs.YtfpmnhmdphaceaaGreatDoor
open Go.EW
attribute [local irreducible] EW.W EW.L EW.fin block8 outB shaL
set_option linter.unusedVariables false
set_option linter.unusedSimpArgs false
attribute [local irreducible] crcN crcB crcL sealL openR sealR
theorem ego_ev {b : List UInt8} {s : Rs} : ∀ {i : Nat} {l : List Evt} {ts : List (List UInt8)} {s' : Rs}, ego b s i = some (l, ts, s') → l = ts.map (fun t => (getEv t).1)
  | 0, l, ts, s', h => by
    rw [ego] at h
    obtain ⟨rfl, rfl, rfl⟩ := by simpa using h
    rfl
  | i + 1, l, ts, s', h => by
    rw [ego] at h
    cases hg : ego b s i with
    | none => rw [hg] at h; cases h
    | some x =>
      obtain ⟨l1, t1, s1⟩ := x
      rw [hg] at h
      simp only [] at h
      split at h
      · cases h
      obtain ⟨rfl, rfl, rfl⟩ := by simpa using h
      rw [List.map_append, ego_ev hg]; rfl
theorem evR_ev (b : List UInt8) : (eventsR b).2.1 = (eventsR b).2.2.1.map (fun t => (getEv t).1) := by
  unfold eventsR
  split
  · rfl
  cases hg : ego b (rInts b ⟨0, 0⟩ 3).2 ((rInts b ⟨0, 0⟩ 3).1.getD 2 0) with
  | none => rfl
  | some x => obtain ⟨l, ts, s⟩ := x; exact ego_ev hg
theorem segF_cap {W w : World} {S : List Seg} {txs : List Tx} (H : St W w S) (i : Nat) (hi : S[i]? = some (Segs (txs.map Tx.segF))) : ∀ t ∈ txs, t.bs.length ≤ t.c := fun t ht => by
  obtain ⟨j, hj, rfl⟩ := List.getElem_of_mem ht
  have h1 := St.segs.1 (H.front i hi)
  have h2 : (txs.map Tx.segF ++ S.eraseIdx i)[j]? = some (rowF 5 1 txs[j].a txs[j].bs.length txs[j].c (txs[j].bs.map B)) := by
    rw [List.getElem?_append_left (by rw [List.length_map]; exact hj), List.getElem?_map, List.getElem?_eq_getElem hj]; rfl
  exact (h1.rowFInv h2).2.1
theorem rInts_bad {b : List UInt8} {s : Rs} : ∀ {i j : Nat}, (rInts b s i).2.err ≠ 0 → i ≤ j → (rInts b s j).2.err ≠ 0
  | i, 0, h, hij => by obtain rfl : i = 0 := by omega
                       exact h
  | i, j + 1, h, hij => by
    rcases Nat.lt_or_ge i (j + 1) with h1 | h1
    · have := rInts_bad (j := j) h (by omega)
      rw [rInts]
      unfold rInt
      rw [if_pos this]; exact this
    obtain rfl : i = j + 1 := by omega
    exact h
theorem rInts_at {b : List UInt8} {s : Rs} : ∀ i, (rInts b s i).2.err = 0 → s.at_ + i ≤ (rInts b s i).2.at_
  | 0, _ => Nat.le_refl _
  | i + 1, h => by
    rw [rInts] at h ⊢
    have g := rInt_good h
    have ih := rInts_at i g.e0
    have h1 := g.at_
    have h2 : 1 ≤ (formL (rInt b maxI (rInts b s i).2).1).length := by rw [szN_len]; exact (szN_le _).1
    simp only []
    omega
theorem rEnd_bad {b : List UInt8} {s : Rs} (h : s.err ≠ 0) : rEnd b s = s.err := by unfold rEnd; rw [if_pos h]
/-- a reference's reading of a foot -/
theorem footR_eq {b : List UInt8} {i : Nat} (hi : i ≤ (rInts b ⟨0, 0⟩ 3).1.getD 2 0) (he : i = (rInts b ⟨0, 0⟩ 3).1.getD 2 0 ∨ (rInts b (rInts b ⟨0, 0⟩ 3).2 i).2.err ≠ 0) :
    (rEnd b (rText b 32 (rInts b (rInts b ⟨0, 0⟩ 3).2 i).2).2 ≠ 0 → (footR b).2.2 = false) ∧ ((rInt b maxI ⟨0, 0⟩).1 ≠ 3 → (footR b).2.2 = false) ∧ ((rText b 32 (rInts b (rInts b ⟨0, 0⟩ 3).2 i).2).1.length ≠ 32 → (footR b).2.2 = false) ∧
    (rEnd b (rText b 32 (rInts b (rInts b ⟨0, 0⟩ 3).2 i).2).2 = 0 → (rInt b maxI ⟨0, 0⟩).1 = 3 → (rText b 32 (rInts b (rInts b ⟨0, 0⟩ 3).2 i).2).1.length = 32 → footR b = ((rInt b maxI (rInt b maxI ⟨0, 0⟩).2).1, (rInts b (rInts b ⟨0, 0⟩ 3).2 i).1, true)) := by
  have e0 : (rInts b ⟨0, 0⟩ 3).1.getD 0 0 = (rInt b maxI ⟨0, 0⟩).1 := rfl
  have e1 : (rInts b ⟨0, 0⟩ 3).1.getD 1 0 = (rInt b maxI (rInt b maxI ⟨0, 0⟩).2).1 := rfl
  have hbad : (rInts b (rInts b ⟨0, 0⟩ 3).2 i).2.err ≠ 0 → (footR b).2.2 = false := fun h => by
    unfold footR
    simp only []
    split
    · rfl
    have h1 := rInts_bad h hi
    have h2 := rText_bad (b := b) (m := 32) h1
    simp only []
    rw [h2.2, rEnd_bad h1, decide_eq_false h1, Bool.false_and]
  refine ⟨fun h => ?_, fun h => ?_, fun h => ?_, fun h1 h2 h3 => ?_⟩
  · by_cases hb : (rInts b (rInts b ⟨0, 0⟩ 3).2 i).2.err ≠ 0
    · exact hbad hb
    obtain rfl : i = _ := he.resolve_right hb
    unfold footR
    simp only []
    split
    · rfl
    simp only []
    rw [decide_eq_false h, Bool.false_and]
  · unfold footR
    simp only []
    rw [if_pos (.inl (by rw [e0]; exact h))]
  · by_cases hb : (rInts b (rInts b ⟨0, 0⟩ 3).2 i).2.err ≠ 0
    · exact hbad hb
    obtain rfl : i = _ := he.resolve_right hb
    unfold footR
    simp only []
    split
    · rfl
    simp only []
    rw [decide_eq_false h, Bool.and_false]
  have he0 : (rInts b (rInts b ⟨0, 0⟩ 3).2 i).2.err = 0 := rText_err (rEnd_good h1).1
  obtain rfl : i = _ := he.resolve_right (fun h => h he0)
  have hat := rInts_at _ he0
  have hok := (rInts_ok2 (b := b) (rInts_ok2 (b := b) (s := ⟨0, 0⟩) (rs0 b) 3) ((rInts b ⟨0, 0⟩ 3).1.getD 2 0)).1
  unfold footR
  simp only []
  rw [if_neg (by rw [e0]; omega), e1, decide_eq_true h1, decide_eq_true h3]
  rfl
end Go.Proofs.YtfpmnhmdphaceaaGreatDoor
