/- A part of this claim: laws of the tape's functions and of plain lists; no conditions beyond those that the theorems name. -/
import Derived.Test.YtfpmnhmdphaceaaGreatDoorZapLAll
import Derived.Test.YtfpmnhmdphaceaaGreatDoorZap27
namespace Go.Proofs.YtfpmnhmdphaceaaGreatDoor
open Go.EW
set_option linter.unusedVariables false
set_option linter.unusedSimpArgs false
theorem be4_num {l : List UInt8} (h : l.length = 4) : be4 (numB l) = l := by
  match l, h with
  | [a, b, c, d], _ =>
    have ha := a.toNat_lt; have hb := b.toNat_lt; have hc := c.toNat_lt; have hd := d.toNat_lt
    have hn : numB [a, b, c, d] = ((a.toNat * 256 + b.toNat) * 256 + c.toNat) * 256 + d.toNat := by simp [numB]
    unfold be4
    rw [hn]
    congr 1
    · apply UInt8.toNat_inj.1; rw [UInt8.toNat_ofNat']; omega
    congr 1
    · apply UInt8.toNat_inj.1; rw [UInt8.toNat_ofNat']; omega
    congr 1
    · apply UInt8.toNat_inj.1; rw [UInt8.toNat_ofNat']; omega
    congr 1
    apply UInt8.toNat_inj.1; rw [UInt8.toNat_ofNat']; omega
theorem take3 {f : List UInt8} {n : Nat} (h : n + 12 ≤ f.length) : f.take (n + 8) = f.take 4 ++ (f.drop 4).take 4 ++ (f.drop 8).take n := by
  rw [show n + 8 = 4 + (4 + n) by omega, List.take_add, List.take_add, List.drop_drop, List.append_assoc]
theorem openR_good {f : List UInt8} (h : (openR f).2 = 0) : f = sealL (openR f).1 ∧ (openR f).1.length + 12 = f.length ∧ f.length ≤ 32768 := by
  unfold openR at h ⊢
  split at h
  · cases h
  split at h
  · cases h
  split at h
  · cases h
  split at h
  · cases h
  split at h
  · cases h
  split at h
  · cases h
  rename_i h1 h2 h3 h4 h5 h6
  simp only [h1, h2, h3, h4, h5, h6, if_false]
  have hm : f.take 4 = magicL := by simpa using h3
  have hc : f.drop (f.length - 4) = le4 (crcL (f.take (f.length - 4))) := by simpa using h6
  have hl4 : ((f.drop 4).take 4).length = 4 := by rw [List.length_take, List.length_drop]; omega
  have hb4 := be4_num hl4
  generalize hn : numB ((f.drop 4).take 4) = n at *
  have hlen : f.length = n + 12 := by omega
  have hbl : ((f.drop 8).take (f.length - 12)).length = n := by rw [List.length_take, List.length_drop]; omega
  have h8 : f.length - 4 = n + 8 := by omega
  have hfr : frmL ((f.drop 8).take (f.length - 12)) = f.take (n + 8) := by
    unfold frmL
    rw [hbl, hb4, ← hm, take3 (by omega), show f.length - 12 = n by omega]
  refine ⟨?_, by rw [hbl]; omega, by omega⟩
  unfold sealL
  rw [hfr, ← h8, ← hc, List.take_append_drop]
theorem bodyR_good {bs : List UInt8} {p : Nat} (h : (bodyR bs p).2.2 = 0) (hp : p ≤ bs.length) : (bs.drop p).take (bodyR bs p).2.1 = sealL (bodyR bs p).1 ∧ (bodyR bs p).2.1 = (bodyR bs p).1.length + 12 ∧ (bodyR bs p).1.length ≤ 32756 ∧ p + (bodyR bs p).2.1 ≤ bs.length := by
  have hle := (bodyR_le bs p).2 h hp
  unfold bodyR at h hle ⊢
  split at h
  · cases h
  split at h
  · cases h
  split at h
  · cases h
  split at h
  · cases h
  split at h
  · cases h
  rename_i h1 h2 h3 h4 h5
  simp only [h1, h2, h3, h4, h5, if_false] at hle ⊢
  have ho := openR_good (by simpa using h5)
  have hl : ((bs.drop p).take (numB ((bs.drop (p + 4)).take 4) + 12)).length = numB ((bs.drop (p + 4)).take 4) + 12 := by rw [List.length_take, List.length_drop]; omega
  exact ⟨ho.1, by omega, by omega, hle.1⟩
theorem rInts_good {b : List UInt8} {s : Rs} : ∀ i, (rInts b s i).2.err = 0 → Good b s (natsB (rInts b s i).1) (rInts b s i).2
  | 0, h => Good.refl h
  | i + 1, h => by
    rw [rInts] at h ⊢
    have g := rInt_good h
    have ih := rInts_good i g.e0
    have e : natsB ((rInts b s i).1 ++ [(rInt b maxI (rInts b s i).2).1]) = natsB (rInts b s i).1 ++ formL (rInt b maxI (rInts b s i).2).1 := by
      unfold natsB; rw [List.flatMap_append, List.flatMap_cons, List.flatMap_nil, List.append_nil]
    simp only []
    rw [e]
    exact ih.trans g
theorem ego_good {b : List UInt8} {s : Rs} : ∀ {i : Nat} {l ts s'}, ego b s i = some (l, ts, s') → s'.err = 0 → Good b s (catL ts) s' ∧ ts = l.map (fun e => (putEv e).1) ∧ ∀ e ∈ l, (putEv e).2 = 0
  | 0, l, ts, s', h, he => by
    rw [ego] at h
    obtain ⟨rfl, rfl, rfl⟩ := by simpa using h
    exact ⟨Good.refl he, rfl, fun e h => absurd h (by simp)⟩
  | i + 1, l, ts, s', h, he => by
    rw [ego] at h
    cases hg : ego b s i with
    | none => rw [hg] at h; cases h
    | some x =>
      obtain ⟨l1, t1, s1⟩ := x
      rw [hg] at h
      simp only [] at h
      split at h
      · cases h
      rename_i hz
      obtain ⟨rfl, rfl, rfl⟩ := by simpa using h
      have g := rText_good he
      obtain ⟨ih, e1, e2⟩ := ego_good hg g.e0
      have hev := (getEv_good (b := (rText b 32768 s1).1) (by simpa using hz)).1
      refine ⟨?_, ?_, ?_⟩
      · rw [cat_snoc, List.append_assoc]; exact ih.trans g
      · rw [List.map_append, e1]
        show _ = _ ++ [(putEv (getEv (rText b 32768 s1).1).1).1]
        rw [hev]
      intro e hm
      rcases List.mem_append.1 hm with hm | hm
      · exact e2 e hm
      rw [List.mem_singleton.1 hm, hev]
/-- a chunk's body is the body of its texts -/
theorem eventsR_good {b : List UInt8} (h : (eventsR b).2.2.2 = true) : b = chunkB (eventsR b).1 (eventsR b).2.2.1 ∧ (eventsR b).2.2.1 = (eventsR b).2.1.map (fun e => (putEv e).1) ∧ ∀ e ∈ (eventsR b).2.1, (putEv e).2 = 0 := by
  unfold eventsR at h ⊢
  split at h
  · cases h
  rename_i hk
  rw [if_neg hk]
  cases hg : ego b (rInts b ⟨0, 0⟩ 3).2 ((rInts b ⟨0, 0⟩ 3).1.getD 2 0) with
  | none => rw [hg] at h; cases h
  | some x =>
    obtain ⟨l, ts, s⟩ := x
    rw [hg] at h
    simp only [] at h ⊢
    obtain ⟨he, hd⟩ := rEnd_good (of_decide_eq_true h)
    obtain ⟨g, e1, e2⟩ := ego_good hg he
    have g3 := rInts_good 3 g.e0
    have gl := (ego_len hg).2.1
    refine ⟨?_, e1, e2⟩
    have hc := (g3.trans g).cut
    rw [hd, List.append_nil] at hc
    have hl3 := rInts_len b ⟨0, 0⟩ 3
    generalize (rInts b ⟨0, 0⟩ 3).1 = l3 at *
    match l3, hl3 with
    | [x, y, z], _ =>
      have hx : x = 2 := by
        refine Decidable.byContradiction fun hne => hk (.inl ?_)
        exact hne
      subst hx
      have hz : z = ts.length := gl.symm
      subst hz
      have : b = natsB [2, y, ts.length] ++ catL ts := hc
      rw [this]
      unfold chunkB natsB
      simp
theorem nats_nums (l : List Nat) : natsB l = numsB (castL l) := by
  unfold natsB numsB castL
  rw [List.flatMap_map]
  rfl
theorem headC_cls (b : List UInt8) (i : Nat) : (headC b i).cls = castL (rInts b (rInts b ⟨0, 0⟩ 7).2 i).1 := rfl
/-- a head's body is its setup's -/
theorem headR_good {b : List UInt8} (h : (headR b).2 = true) : b = headB (headR b).1 ∧ chkS (headR b).1 = 0 := by
  unfold headR at h ⊢
  split at h
  · cases h
  rename_i hk
  rw [if_neg hk]
  simp only [Bool.and_eq_true] at h
  obtain ⟨h1, h2⟩ := h
  obtain ⟨he, hd⟩ := rEnd_good (of_decide_eq_true h1)
  refine ⟨?_, of_decide_eq_true h2⟩
  have gc := rInts_good _ he
  have g7 := rInts_good 7 gc.e0
  have hc := (g7.trans gc).cut
  rw [hd, List.append_nil] at hc
  have hl := headC_len b (VV b 6)
  have hcls : (headC b (VV b 6)).cls = castL (rInts b (rInts b ⟨0, 0⟩ 7).2 (VV b 6)).1 := headC_cls b _
  have hv7 : castL (rInts b ⟨0, 0⟩ 7).1 = hv (headC b (VV b 6)) := by
    have hl7 := rInts_len b ⟨0, 0⟩ 7
    have hV : ∀ j, VV b j = (rInts b ⟨0, 0⟩ 7).1.getD j 0 := fun j => rfl
    have e5 : plainN (headC b (VV b 6)) = (VV b 5 : Int) := by
      unfold plainN
      show (if ((VV b 5 : Int) == 1) = true then (1 : Int) else 0) = _
      split
      · rename_i h5; have := eq_of_beq h5; omega
      rename_i h5
      have : (VV b 5 : Int) ≠ 1 := fun h => h5 (by rw [h]; rfl)
      omega
    have h0 : VV b 0 = 1 := by omega
    have h1 : VV b 1 = 1 := by omega
    unfold hv
    rw [e5, hl]
    show _ = [(1 : Int), 1, (VV b 2 : Int), (VV b 3 : Int), (VV b 4 : Int), (VV b 5 : Int), (VV b 6 : Int)]
    rw [hV 2, hV 3, hV 4, hV 5, hV 6]
    rw [hV 0] at h0
    rw [hV 1] at h1
    generalize (rInts b ⟨0, 0⟩ 7).1 = l7 at *
    match l7, hl7 with
    | [x0, x1, x2, x3, x4, x5, x6], _ =>
      have h0 : x0 = 1 := h0
      have h1 : x1 = 1 := h1
      subst h0; subst h1
      simp [castL]
  unfold headB
  rw [← hv7, hcls, ← nats_nums, ← nats_nums]
  exact hc
end Go.Proofs.YtfpmnhmdphaceaaGreatDoor
