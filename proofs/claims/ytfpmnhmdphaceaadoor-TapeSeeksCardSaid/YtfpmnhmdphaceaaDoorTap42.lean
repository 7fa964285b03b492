/- The reference's chunkAt and index do what the plain functions say, of any bytes in memory. -/
import Derived.Test.YtfpmnhmdphaceaaDoorTap41
namespace Go.Proofs.YtfpmnhmdphaceaaDoor
open Go.EW
attribute [local irreducible] EW.W EW.L EW.fin block8 outB shaL
set_option linter.unusedVariables false
set_option linter.unusedSimpArgs false
attribute [local irreducible] crcN crcB crcL sealL openR sealR
theorem ego_ev {b : List UInt8} {s : Rs} : ∀ {i : Nat} {l : List Evt} {ts : List (List UInt8)} {s' : Rs}, ego b s i = some (l, ts, s') → l = ts.map (fun t => (getEv t).1)
  | 0, l, ts, s', h => by
    rw [ego] at h
    obtain ⟨rfl, rfl, rfl⟩ := by simpa using h
    rfl
  | i + 1, l, ts, s', h => by
    rw [ego] at h
    cases hg : ego b s i with
    | none => rw [hg] at h; cases h
    | some x =>
      obtain ⟨l1, t1, s1⟩ := x
      rw [hg] at h
      simp only [] at h
      split at h
      · cases h
      obtain ⟨rfl, rfl, rfl⟩ := by simpa using h
      rw [List.map_append, ego_ev hg]; rfl
theorem evR_ev (b : List UInt8) : (eventsR b).2.1 = (eventsR b).2.2.1.map (fun t => (getEv t).1) := by
  unfold eventsR
  split
  · rfl
  cases hg : ego b (rInts b ⟨0, 0⟩ 3).2 ((rInts b ⟨0, 0⟩ 3).1.getD 2 0) with
  | none => rfl
  | some x => obtain ⟨l, ts, s⟩ := x; exact ego_ev hg
theorem segF_cap {W w : World} {S : List Seg} {txs : List Tx} (H : St W w S) (i : Nat) (hi : S[i]? = some (Segs (txs.map Tx.segF))) : ∀ t ∈ txs, t.bs.length ≤ t.c := fun t ht => by
  obtain ⟨j, hj, rfl⟩ := List.getElem_of_mem ht
  have h1 := St.segs.1 (H.front i hi)
  have h2 : (txs.map Tx.segF ++ S.eraseIdx i)[j]? = some (rowF 5 1 txs[j].a txs[j].bs.length txs[j].c (txs[j].bs.map B)) := by
    rw [List.getElem?_append_left (by rw [List.length_map]; exact hj), List.getElem?_map, List.getElem?_eq_getElem hj]; rfl
  exact (h1.rowFInv h2).2.1
theorem rInts_bad {b : List UInt8} {s : Rs} : ∀ {i j : Nat}, (rInts b s i).2.err ≠ 0 → i ≤ j → (rInts b s j).2.err ≠ 0
  | i, 0, h, hij => by obtain rfl : i = 0 := by omega
                       exact h
  | i, j + 1, h, hij => by
    rcases Nat.lt_or_ge i (j + 1) with h1 | h1
    · have := rInts_bad (j := j) h (by omega)
      rw [rInts]
      unfold rInt
      rw [if_pos this]; exact this
    obtain rfl : i = j + 1 := by omega
    exact h
theorem rInts_at {b : List UInt8} {s : Rs} : ∀ i, (rInts b s i).2.err = 0 → s.at_ + i ≤ (rInts b s i).2.at_
  | 0, _ => Nat.le_refl _
  | i + 1, h => by
    rw [rInts] at h ⊢
    have g := rInt_good h
    have ih := rInts_at i g.e0
    have h1 := g.at_
    have h2 : 1 ≤ (formL (rInt b maxI (rInts b s i).2).1).length := by rw [szN_len]; exact (szN_le _).1
    simp only []
    omega
theorem rEnd_bad {b : List UInt8} {s : Rs} (h : s.err ≠ 0) : rEnd b s = s.err := by unfold rEnd; rw [if_pos h]
/-- a reference's reading of a foot -/
theorem footR_eq {b : List UInt8} {i : Nat} (hi : i ≤ (rInts b ⟨0, 0⟩ 3).1.getD 2 0) (he : i = (rInts b ⟨0, 0⟩ 3).1.getD 2 0 ∨ (rInts b (rInts b ⟨0, 0⟩ 3).2 i).2.err ≠ 0) :
    (rEnd b (rText b 32 (rInts b (rInts b ⟨0, 0⟩ 3).2 i).2).2 ≠ 0 → (footR b).2.2 = false) ∧ ((rInt b maxI ⟨0, 0⟩).1 ≠ 3 → (footR b).2.2 = false) ∧ ((rText b 32 (rInts b (rInts b ⟨0, 0⟩ 3).2 i).2).1.length ≠ 32 → (footR b).2.2 = false) ∧
    (rEnd b (rText b 32 (rInts b (rInts b ⟨0, 0⟩ 3).2 i).2).2 = 0 → (rInt b maxI ⟨0, 0⟩).1 = 3 → (rText b 32 (rInts b (rInts b ⟨0, 0⟩ 3).2 i).2).1.length = 32 → footR b = ((rInt b maxI (rInt b maxI ⟨0, 0⟩).2).1, (rInts b (rInts b ⟨0, 0⟩ 3).2 i).1, true)) := by
  have e0 : (rInts b ⟨0, 0⟩ 3).1.getD 0 0 = (rInt b maxI ⟨0, 0⟩).1 := rfl
  have e1 : (rInts b ⟨0, 0⟩ 3).1.getD 1 0 = (rInt b maxI (rInt b maxI ⟨0, 0⟩).2).1 := rfl
  have hbad : (rInts b (rInts b ⟨0, 0⟩ 3).2 i).2.err ≠ 0 → (footR b).2.2 = false := fun h => by
    unfold footR
    simp only []
    split
    · rfl
    have h1 := rInts_bad h hi
    have h2 := rText_bad (b := b) (m := 32) h1
    simp only []
    rw [h2.2, rEnd_bad h1, decide_eq_false h1, Bool.false_and]
  refine ⟨fun h => ?_, fun h => ?_, fun h => ?_, fun h1 h2 h3 => ?_⟩
  · by_cases hb : (rInts b (rInts b ⟨0, 0⟩ 3).2 i).2.err ≠ 0
    · exact hbad hb
    obtain rfl : i = _ := he.resolve_right hb
    unfold footR
    simp only []
    split
    · rfl
    simp only []
    rw [decide_eq_false h, Bool.false_and]
  · unfold footR
    simp only []
    rw [if_pos (.inl (by rw [e0]; exact h))]
  · by_cases hb : (rInts b (rInts b ⟨0, 0⟩ 3).2 i).2.err ≠ 0
    · exact hbad hb
    obtain rfl : i = _ := he.resolve_right hb
    unfold footR
    simp only []
    split
    · rfl
    simp only []
    rw [decide_eq_false h, Bool.and_false]
  have he0 : (rInts b (rInts b ⟨0, 0⟩ 3).2 i).2.err = 0 := rText_err (rEnd_good h1).1
  obtain rfl : i = _ := he.resolve_right (fun h => h he0)
  have hat := rInts_at _ he0
  have hok := (rInts_ok2 (b := b) (rInts_ok2 (b := b) (s := ⟨0, 0⟩) (rs0 b) 3) ((rInts b ⟨0, 0⟩ 3).1.getD 2 0)).1
  unfold footR
  simp only []
  rw [if_neg (by rw [e0]; omega), e1, decide_eq_true h1, decide_eq_true h3]
  rfl
theorem nat_c {w : World} {a : Option Addr} {b o : Nat} {l : List Nat} {i : Nat} (ha : a = some ⟨b, o, none⟩) (h : Rd w a (natsV l)) (hi : i < l.length) : w.cell? ⟨b, o + i * 1, none⟩ = some (I (l[i] : Int)) :=
  rd_at ha h (by unfold natsV; rw [List.getElem?_map, List.getElem?_eq_getElem hi]; rfl)
theorem chunkAt_r {W w : World} {F : List Seg} (H : St W w F) {a : Option Addr} {n c p : Nat} {bs : List UInt8} (hr : RdIn W F a (bs.map B)) (hl : bs.length = n) (hcp : bs.length ≤ c) (hn : n ≤ 140737488351232) (hp : p ≤ n) :
    Ok Tryd.prog 83 [.slice a n c, I (p : Int)].toArray w (fun r w' => ∃ ok, ∃ x : Nat, ∃ ta tc, ∃ txs : List Tx, r = .tuple #[I (x : Int), .slice ta txs.length tc, .bool ok] ∧ (ok = true → chunkAtR bs p = some (x, (txs.map Tx.bs).map fun t => (getEv t).1) ∧ ∀ t ∈ txs, t.bs.length ≤ 32768) ∧ (ok = false → chunkAtR bs p = none) ∧ St W w' (row 28 1 ta txs.length tc (txs.map Tx.v) :: Segs (txs.map Tx.segF) :: F)) := by
  subst hl
  refine enter (n := 24) (rs := #[.tmp 4, .tmp 5, .tmp 6]) Tryd.func83 rfl rfl rfl rfl ?_
  refine w_seq ?_
  refine w_region ?_
  refine l_pint rfl rfl ?_
  refine l_pslice rfl rfl ?_
  refine l_pbool rfl rfl ?_
  refine l_nil ?_
  refine w_seq ?_
  refine w_region ?_
  refine l_pslice rfl rfl ?_
  refine l_pint rfl rfl ?_
  refine b_call rfl cb_119 rfl (frame_r H hr rfl hcp hn hp) (fun v w hv => ?_)
  obtain ⟨ya, yc, rfl, H⟩ := hv
  have hyc := (H.rowInv (i := 0) rfl).2.1
  have hyl := (bodyR_le bs p).1
  refine l_ptup rfl rfl ?_
  refine l_pslice rfl rfl ?_
  refine l_pint rfl rfl ?_
  refine l_pint rfl rfl ?_
  refine l_pslice rfl rfl ?_
  refine l_pint rfl rfl ?_
  refine l_pint rfl rfl ?_
  refine l_nil ?_
  refine w_seq ?_
  refine w_seq ?_
  refine w_region ?_
  refine l_pint rfl rfl ?_
  refine l_pbool rfl rfl ?_
  refine l_nil ?_
  refine w_cond rfl (fun c1 => ?_) (fun c1 => ?_)
  · try simp only [sH] at c1
    refine w_seq ?_
    refine w_region ?_
    refine l_pint rfl rfl ?_
    refine l_pslice rfl rfl ?_
    refine l_pbool rfl rfl ?_
    refine l_nil ?_
    refine w_ret ?_
    refine fin3 rfl rfl rfl ?_
    exact ⟨false, 0, none, 0, [], rfl, fun h => (by cases h), fun _ => chunkAt_none (.inl (by omega)), St.pick [1, 0] (pre := [_, _]) rfl (St.nilseg.2 (St.newRow (T := 28) (sz := 1) H.drop1)) rfl⟩
  try simp only [sH] at c1
  refine w_skip ?_
  refine w_seq ?_
  refine w_region ?_
  refine l_pslice rfl rfl ?_
  refine b_call rfl cb_120 rfl (getChunk_r H (RdIn.row 0 rfl) rfl hyc (by omega)) (fun v w hv => ?_)
  obtain ⟨x, ta, tc, txs, rfl, hx, H⟩ := hv
  have H := H.erase 2
  refine l_pint rfl rfl ?_
  refine l_pslice rfl rfl ?_
  refine l_pbool rfl rfl ?_
  refine l_pint rfl rfl ?_
  refine l_pslice rfl rfl ?_
  refine l_pbool rfl rfl ?_
  refine l_nil ?_
  refine w_ret ?_
  refine fin3 rfl rfl rfl ?_
  refine ⟨_, x, ta, tc, txs, rfl, fun h => ?_, fun h => chunkAt_none (.inr h), H⟩
  obtain ⟨rfl, h2⟩ := hx h
  obtain ⟨g1, g2, g3, g4⟩ := eventsR_len (bodyR bs p).1
  exact ⟨by rw [chunkAt_some (by omega) h, evR_ev, ← h2], fun t ht => g3 _ (by rw [← h2]; exact List.mem_map.2 ⟨t, ht, rfl⟩)⟩
set_option maxRecDepth 8000 in
set_option maxHeartbeats 1000000 in
theorem index_r {W w : World} {F : List Seg} (H : St W w F) {a : Option Addr} {n c : Nat} {bs : List UInt8} (hr : RdIn W F a (bs.map B)) (hl : bs.length = n) (hcp : bs.length ≤ c) (hn : n ≤ 140737488351232) :
    Ok Tryd.prog 80 [.slice a n c].toArray w (fun r w' => ∃ (x : Int), ∃ a' c', r = .tuple #[I ((indexR bs).1 : Int), .slice a' (indexR bs).2.1.length c', I x, I ((indexR bs).2.2 : Int)] ∧ St W w' (row 3 1 a' (indexR bs).2.1.length c' (natsV (indexR bs).2.1) :: F)) := by
  subst hl
  have hmx : maxI = 9223372036854775807 := rfl
  refine enter (n := 134) (rs := #[.tmp 2, .tmp 3, .tmp 4, .tmp 5]) Tryd.func80 rfl rfl rfl rfl ?_
  refine w_seq ?_
  refine w_region ?_
  refine l_pint rfl rfl ?_
  refine l_pslice rfl rfl ?_
  refine l_pint rfl rfl ?_
  refine l_pint rfl rfl ?_
  refine l_nil ?_
  refine w_seq ?_
  refine w_seq ?_
  refine w_region ?_
  refine l_pslice rfl rfl ?_
  refine l_v rfl (q_lenSlice rfl el_28 rfl) ?_
  refine l_pbool rfl rfl ?_
  refine l_nil ?_
  refine w_cond rfl (fun c1 => ?_) (fun c1 => ?_)
  · try simp only [sH] at c1
    refine w_seq ?_
    refine w_region ?_
    refine l_pint rfl rfl ?_
    refine l_pslice rfl rfl ?_
    refine l_pint rfl rfl ?_
    refine l_pint rfl rfl ?_
    refine l_nil ?_
    refine w_ret ?_
    refine fin4 rfl rfl rfl rfl ?_
    rw [index_short (by omega)]
    exact ⟨_, none, 0, rfl, St.newRow H⟩
  try simp only [sH] at c1
  refine w_skip ?_
  refine w_seq ?_
  refine w_region ?_
  refine l_pslice rfl rfl ?_
  refine l_pslice rfl rfl ?_
  refine l_v rfl (q_lenSlice rfl el_28 rfl) ?_
  first | refine l_v rfl (q_sub rfl rfl rfl (by simp only [inK]; omega)) ?_ | refine l_pint rfl rfl ?_
  refine b_call rfl cb_117 rfl (tailLen_ok (p := (bs.length - 4)) H hr rfl (by omega) (by omega) (by omega)) (fun v w hv => ?_)
  obtain ⟨rfl, H⟩ := hv
  rw [show numB ((bs.drop (bs.length - 4)).take 4) = idxN bs by rw [List.take_of_length_le (by rw [List.length_drop]; omega)]; rfl]
  have hn4 := numB_4 (l := (bs.drop (bs.length - 4))) (by rw [List.length_drop]; omega)
  rw [show numB (bs.drop (bs.length - 4)) = idxN bs from rfl] at hn4
  refine l_pint rfl rfl ?_
  refine l_nil ?_
  refine w_seq ?_
  refine w_seq ?_
  refine w_region ?_
  refine l_pint rfl rfl ?_
  refine l_pslice rfl rfl ?_
  refine l_v rfl (q_lenSlice rfl el_28 rfl) ?_
  first | refine l_v rfl (q_sub rfl rfl rfl (by simp only [inK]; omega)) ?_ | refine l_pint rfl rfl ?_
  refine l_pbool rfl rfl ?_
  refine l_nil ?_
  refine w_cond rfl (fun c2 => ?_) (fun c2 => ?_)
  · try simp only [sH] at c2
    refine w_seq ?_
    refine w_region ?_
    refine l_pint rfl rfl ?_
    refine l_pslice rfl rfl ?_
    refine l_pint rfl rfl ?_
    refine l_pint rfl rfl ?_
    refine l_nil ?_
    refine w_ret ?_
    refine fin4 rfl rfl rfl rfl ?_
    rw [index_far (by omega)]
    exact ⟨_, none, 0, rfl, St.newRow H⟩
  try simp only [sH] at c2
  refine w_skip ?_
  refine w_seq ?_
  refine w_region ?_
  refine l_pslice rfl rfl ?_
  refine l_v rfl (q_lenSlice rfl el_28 rfl) ?_
  first | refine l_v rfl (q_sub rfl rfl rfl (by simp only [inK]; omega)) ?_ | refine l_pint rfl rfl ?_
  refine l_pint rfl rfl ?_
  first | refine l_v rfl (q_sub rfl rfl rfl (by simp only [inK]; omega)) ?_ | refine l_pint rfl rfl ?_
  refine l_pint rfl rfl ?_
  refine l_nil ?_
  refine w_seq ?_
  refine w_region ?_
  refine l_pslice rfl rfl ?_
  refine l_pint rfl rfl ?_
  refine l_pint rfl rfl ?_
  refine l_pint rfl rfl ?_
  first | refine l_v rfl (q_add rfl rfl rfl (by simp only [inK]; omega)) ?_ | refine l_pint rfl rfl ?_
  refine l_v rfl (q_slice (l := (bs.length - 4) - (idxN bs)) (h := (bs.length - 4)) (m := c) rfl el_28 rfl Bnd.none (by have h := @Bnd.mk .i64 ((((bs.length : Int) - 4) - ((idxN bs) : Int) + ((idxN bs) : Int))) bs.length c ⟨by omega, by omega⟩; rwa [show ((((bs.length : Int) - 4) - ((idxN bs) : Int) + ((idxN bs) : Int))).toNat = (bs.length - 4) by omega] at h) (by have h := @Bnd.mk .i64 ((((bs.length : Int) - 4) - ((idxN bs) : Int))) 0 (bs.length - 4) ⟨by omega, by omega⟩; rwa [show ((((bs.length : Int) - 4) - ((idxN bs) : Int))).toNat = (bs.length - 4) - (idxN bs) by omega] at h) (by simp)) ?_
  refine b_call rfl cb_118 rfl (rOpen_ok (bs := idxT bs) H (by have h := hr.subA (sz := 1) (l := (bs.length - 4) - (idxN bs)) (m := c) (j := (idxN bs)) (fun e => by omega); rw [Nat.mul_one, ← List.map_drop, ← List.map_take] at h; exact h) (by unfold idxT; rw [List.length_take, List.length_drop]; omega) (by unfold idxT; rw [List.length_take, List.length_drop]; omega) (by omega)) (fun v w hv => ?_)
  obtain ⟨oa, oc, rfl, H⟩ := hv
  have hoc := (H.rowInv (i := 0) rfl).2.1
  refine l_ptup rfl rfl ?_
  refine l_pslice rfl rfl ?_
  refine l_pint rfl rfl ?_
  refine l_pslice rfl rfl ?_
  refine l_pint rfl rfl ?_
  refine l_nil ?_
  refine w_seq ?_
  refine w_seq ?_
  refine w_region ?_
  refine l_pint rfl rfl ?_
  refine l_pbool rfl rfl ?_
  refine l_nil ?_
  refine w_cond rfl (fun c3 => ?_) (fun c3 => ?_)
  · try simp only [sH] at c3
    refine w_seq ?_
    refine w_region ?_
    refine l_pint rfl rfl ?_
    refine l_pslice rfl rfl ?_
    refine l_pint rfl rfl ?_
    refine l_pint rfl rfl ?_
    refine l_nil ?_
    refine w_ret ?_
    refine fin4 rfl rfl rfl rfl ?_
    rw [index_bad (bs := bs) (by omega) (by omega) (.inl (by omega))]
    exact ⟨_, none, 0, rfl, St.newRow H.drop1⟩
  try simp only [sH] at c3
  have hog := openR_good (f := idxT bs) (by omega)
  have hol : (openR (idxT bs)).1.length ≤ 100000 := by omega
  refine w_skip ?_
  refine w_seq ?_
  refine w_region ?_
  refine l_pslice rfl rfl ?_
  refine l_v rfl (q_build (cs := [.slice oa (openR (idxT bs)).1.length oc, .int .i64 0, .int .i64 0]) rfl sp_129 rfl) ?_
  refine b_box (cs := [.slice oa (openR (idxT bs)).1.length oc, .int .i64 0, .int .i64 0]) rfl rfl rfl H (fun rb w H => ?_)
  have H : St W w (refL rb oa oc (openR (idxT bs)).1 ⟨0, 0⟩ (row 5 1 oa (openR (idxT bs)).1.length oc ((openR (idxT bs)).1.map B) :: F)) := H
  refine l_pptr rfl rfl ?_
  refine l_nil ?_
  refine w_seq ?_
  refine w_region ?_
  refine l_pptr rfl rfl ?_
  refine b_call rfl cb_57 rfl (rInt_ok (mo := maxI) H (RdIn.row 0 rfl) hoc (rs0 _) (by omega) (by decide)) (fun v w hv => ?_)
  obtain ⟨rfl, H⟩ := hv
  refine l_pint rfl rfl ?_
  refine l_nil ?_
  refine w_seq ?_
  refine w_region ?_
  refine l_pptr rfl rfl ?_
  refine b_call rfl cb_57 rfl (rInt_ok (mo := maxI) H (RdIn.row 0 rfl) hoc (rInt_ok2 (rs0 _)) (by omega) (by decide)) (fun v w hv => ?_)
  obtain ⟨rfl, H⟩ := hv
  refine l_pint rfl rfl ?_
  refine l_nil ?_
  refine w_seq ?_
  refine w_region ?_
  refine l_pptr rfl rfl ?_
  refine b_call rfl cb_57 rfl (rInt_ok (mo := maxI) H (RdIn.row 0 rfl) hoc (rInt_ok2 (rInt_ok2 (rs0 _))) (by omega) (by decide)) (fun v w hv => ?_)
  obtain ⟨rfl, H⟩ := hv
  have H : St W w (refL rb oa oc (openR (idxT bs)).1 (rInts (openR (idxT bs)).1 ⟨0, 0⟩ 3).2 (row 5 1 oa (openR (idxT bs)).1.length oc ((openR (idxT bs)).1.map B) :: F)) := H
  have eN2 : ((rInts (openR (idxT bs)).1 ⟨0, 0⟩ 3).1.getD 2 0) = (rInt (openR (idxT bs)).1 maxI (rInt (openR (idxT bs)).1 maxI (rInt (openR (idxT bs)).1 maxI ⟨0, 0⟩).2).2).1 := rfl
  refine l_pint rfl rfl ?_
  refine l_nil ?_
  refine w_seq ?_
  refine w_region ?_
  refine l_pslice rfl rfl ?_
  refine l_nil ?_
  refine w_cutG (G := Nat × Option Addr × Nat) [14, 15, 57, 58, 59, 60, 61, 62, 63, 64, 65, 66, 67, 68, 69, 70, 71, 72, 73] (fun ⟨i, la, lc⟩ => [(14, .slice la i lc)]) (fun ⟨i, la, lc⟩ w => i ≤ ((rInts (openR (idxT bs)).1 ⟨0, 0⟩ 3).1.getD 2 0) ∧ (i = ((rInts (openR (idxT bs)).1 ⟨0, 0⟩ 3).1.getD 2 0) ∨ (rInts (openR (idxT bs)).1 (rInts (openR (idxT bs)).1 ⟨0, 0⟩ 3).2 i).2.err ≠ 0) ∧ St W w (refL rb oa oc (openR (idxT bs)).1 (rInts (openR (idxT bs)).1 (rInts (openR (idxT bs)).1 ⟨0, 0⟩ 3).2 i).2 (row 3 1 la i lc (natsV (rInts (openR (idxT bs)).1 (rInts (openR (idxT bs)).1 ⟨0, 0⟩ 3).2 i).1) :: row 5 1 oa (openR (idxT bs)).1.length oc ((openR (idxT bs)).1.map B) :: F))) (fun _ => rfl) ?_ ?_
  · refine w_seq ?_
    refine w_region ?_
    refine l_pint rfl rfl ?_
    refine l_nil ?_
    refine w_block ?_
    refine w_loopG (G := Nat × Option Addr × Nat) [14, 15, 57, 58, 59, 60, 61, 62, 63, 64, 65, 66, 67, 68, 69, 70, 71, 72, 73] (fun ⟨i, la, lc⟩ => [(14, .slice la i lc), (15, I ((i : Nat) : Int))]) (fun m ⟨i, la, lc⟩ w => m + i = ((rInts (openR (idxT bs)).1 ⟨0, 0⟩ 3).1.getD 2 0) ∧ (i ≤ 40000) ∧ St W w (refL rb oa oc (openR (idxT bs)).1 (rInts (openR (idxT bs)).1 (rInts (openR (idxT bs)).1 ⟨0, 0⟩ 3).2 i).2 (row 3 1 la i lc (natsV (rInts (openR (idxT bs)).1 (rInts (openR (idxT bs)).1 ⟨0, 0⟩ 3).2 i).1) :: row 5 1 oa (openR (idxT bs)).1.length oc ((openR (idxT bs)).1.map B) :: F))) (fun _ => rfl) ?_ ?_
    · exact ⟨((rInts (openR (idxT bs)).1 ⟨0, 0⟩ 3).1.getD 2 0), (0, none, 0), ⟨rfl, rfl, trivial⟩, rfl, Nat.zero_le _, St.pick [1, 0] (pre := [_, _]) rfl (St.newRow (T := 3) (sz := 1) H) rfl⟩
    rintro m ⟨i, la, lc⟩ ρ1 w ⟨hmi, hi4, H⟩
    refine w_seq ?_
    refine w_seq ?_
    refine w_region ?_
    refine l_pint rfl rfl ?_
    refine l_pint rfl rfl ?_
    refine l_pbool rfl rfl ?_
    refine l_pbool rfl rfl ?_
    refine l_split 60 rfl (fun h60 => ?_) (fun h60 => ?_)
    · try simp only [sH] at h60
      refine l_pptr rfl rfl ?_
      refine l_pptr rfl rfl ?_
      refine l_v rfl (q_fieldAddr rfl fo129_2 rfl) ?_
      refine l_v rfl (q_load1 rfl c1_3 rfl (by first | exact H.cell 0 rfl rfl | exact H.cell 1 rfl rfl)) ?_
      refine l_pbool rfl rfl ?_
      refine l_pickT (v := .bool _) rfl rfl rfl ?_
      refine l_nil ?_
      refine w_cond rfl (fun c4 => ?_) (fun c4 => ?_)
      · try simp only [sH] at c4
        have he0 : (rInts (openR (idxT bs)).1 (rInts (openR (idxT bs)).1 ⟨0, 0⟩ 3).2 i).2.err = 0 := by omega
        refine w_skip ?_
        refine w_seq ?_
        refine w_block ?_
        refine w_region ?_
        refine l_pslice rfl rfl ?_
        refine l_pptr rfl rfl ?_
        refine b_call rfl cb_57 rfl (rInt_ok (mo := maxI) H (RdIn.row 1 rfl) hoc (rInts_ok2 (rInts_ok2 (rs0 _) 3) i) (by omega) (by decide)) (fun v w hv => ?_)
        obtain ⟨rfl, H⟩ := hv
        refine b_buildSlice (cs := [I ((rInt (openR (idxT bs)).1 maxI (rInts (openR (idxT bs)).1 (rInts (openR (idxT bs)).1 ⟨0, 0⟩ 3).2 i).2).1 : Int)]) rfl el_66 ze_3 rfl rfl rfl H (fun b72 w H => ?_)
        refine b_append rfl el_66 ze_3 rfl rfl rfl H 2 rfl (Rd.mk (H.cells0 0 rfl)) rfl (fun u hu => by obtain rfl := List.mem_singleton.1 hu; rfl) ⟨by omega, by simp only [maxLen]; omega⟩ (fun a73 c73 w H => ?_)
        refine l_pslice rfl rfl ?_
        refine l_nil ?_
        refine w_region ?_
        refine l_pint rfl rfl ?_
        first | refine l_v rfl (q_add rfl rfl rfl (by simp only [inK]; omega)) ?_ | refine l_pint rfl rfl ?_
        refine l_pint rfl rfl ?_
        refine l_nil ?_
        refine ⟨by repeat' first | exact aM | exact aR | refine aI rfl ?_ | refine aU rfl ?_ | refine aL rfl ?_, ?_⟩
        refine ⟨m - 1, (i + 1, a73, c73), by omega, ⟨rfl, by exact congrArg (Value.int IntKind.i64) (Int.natCast_succ i).symm, trivial⟩, by omega, ?_, ?_⟩
        · have := (rInts_ok2 (b := (openR (idxT bs)).1) (rInts_ok2 (b := (openR (idxT bs)).1) (s := ⟨0, 0⟩) (rs0 _) 3) i).1
          have := rInts_at (b := (openR (idxT bs)).1) (s := (rInts (openR (idxT bs)).1 ⟨0, 0⟩ 3).2) i he0
          omega
        rw [rInts]
        unfold natsV at H ⊢
        rw [List.map_append]
        exact H.drop1
      try simp only [sH] at c4
      refine w_exit ?_
      refine ⟨by repeat' first | exact aM | exact aR | refine aI rfl ?_ | refine aU rfl ?_ | refine aL rfl ?_, ?_⟩
      exact ⟨(i, la, lc), ⟨rfl, trivial⟩, by omega, by omega, H⟩
    try simp only [sH] at h60
    refine l_no rfl ?_
    refine l_no rfl ?_
    refine l_no rfl ?_
    refine l_no rfl ?_
    refine l_no rfl ?_
    refine l_pickF (v := .bool _) rfl rfl rfl ?_
    refine l_nil ?_
    refine w_cond_f rfl ?_
    refine w_exit ?_
    refine ⟨by repeat' first | exact aM | exact aR | refine aI rfl ?_ | refine aU rfl ?_ | refine aL rfl ?_, ?_⟩
    exact ⟨(i, la, lc), ⟨rfl, trivial⟩, by omega, by omega, H⟩
  rintro ⟨i, la, lc⟩ ρ1 w ⟨hi1, hi2, H⟩
  have hfe := footR_eq hi1 hi2
  have hll := rInts_len (openR (idxT bs)).1 (rInts (openR (idxT bs)).1 ⟨0, 0⟩ 3).2 i
  have hibad := fun h => index_bad (bs := bs) (by omega) (by omega) (.inr h)
  have higood := index_good (bs := bs) (by omega) (by omega) (by omega)
  refine w_seq ?_
  refine w_region ?_
  refine l_pptr rfl rfl ?_
  refine b_call rfl cb_59 rfl (rText_ok (mo := 32) H (RdIn.row 1 rfl) hoc (rInts_ok2 (rInts_ok2 (rs0 _) 3) i) (by omega) (by decide)) (fun v w hv => ?_)
  obtain ⟨rfl, H⟩ := hv
  refine l_pstr rfl rfl ?_
  refine l_nil ?_
  refine w_seq ?_
  refine w_seq ?_
  refine w_region ?_
  refine l_pptr rfl rfl ?_
  refine b_call rfl cb_60 rfl (rEnd_ok H (RdIn.row 1 rfl) hoc (rText_ok2 (rInts_ok2 (rInts_ok2 (rs0 _) 3) i)) (by omega)) (fun v w hv => ?_)
  obtain ⟨rfl, H⟩ := hv
  refine l_pbool rfl rfl ?_
  refine l_pbool rfl rfl ?_
  refine l_split 79 rfl (fun h79 => ?_) (fun h79 => ?_)
  · try simp only [sH] at h79
    refine l_no rfl ?_
    refine l_no rfl ?_
    refine l_pickT (v := .bool _) rfl rfl rfl ?_
    refine l_pbool rfl rfl ?_
    refine l_no rfl ?_
    refine l_no rfl ?_
    refine l_no rfl ?_
    refine l_pickT (v := .bool _) rfl rfl rfl ?_
    refine l_pbool rfl rfl ?_
    refine l_no rfl ?_
    refine l_no rfl ?_
    refine l_no rfl ?_
    refine l_no rfl ?_
    refine l_no rfl ?_
    refine l_no rfl ?_
    refine l_pickT (v := .bool _) rfl rfl rfl ?_
    refine l_nil ?_
    refine w_cond_t rfl ?_
    refine w_seq ?_
    refine w_region ?_
    refine l_pint rfl rfl ?_
    refine l_pslice rfl rfl ?_
    refine l_pint rfl rfl ?_
    refine l_pint rfl rfl ?_
    refine l_nil ?_
    refine w_ret ?_
    refine fin4 rfl rfl rfl rfl ?_
    rw [hibad (.inl (hfe.1 (by omega)))]
    exact ⟨_, none, 0, rfl, St.newRow H.drop1.drop1.drop1⟩
  try simp only [sH] at h79
  refine l_pint rfl rfl ?_
  refine l_pbool rfl rfl ?_
  refine l_pickF (v := .bool _) rfl rfl rfl ?_
  refine l_pbool rfl rfl ?_
  refine l_split 83 rfl (fun h83 => ?_) (fun h83 => ?_)
  · try simp only [sH] at h83
    refine l_no rfl ?_
    refine l_no rfl ?_
    refine l_no rfl ?_
    refine l_pickT (v := .bool _) rfl rfl rfl ?_
    refine l_pbool rfl rfl ?_
    refine l_no rfl ?_
    refine l_no rfl ?_
    refine l_no rfl ?_
    refine l_no rfl ?_
    refine l_no rfl ?_
    refine l_no rfl ?_
    refine l_pickT (v := .bool _) rfl rfl rfl ?_
    refine l_nil ?_
    refine w_cond_t rfl ?_
    refine w_seq ?_
    refine w_region ?_
    refine l_pint rfl rfl ?_
    refine l_pslice rfl rfl ?_
    refine l_pint rfl rfl ?_
    refine l_pint rfl rfl ?_
    refine l_nil ?_
    refine w_ret ?_
    refine fin4 rfl rfl rfl rfl ?_
    rw [hibad (.inl (hfe.2.1 (by omega)))]
    exact ⟨_, none, 0, rfl, St.newRow H.drop1.drop1.drop1⟩
  try simp only [sH] at h83
  refine l_pstr rfl rfl ?_
  refine l_v rfl (q_lenStr rfl st_9 rfl) ?_
  refine l_pbool rfl rfl ?_
  refine l_pickF (v := .bool _) rfl rfl rfl ?_
  refine l_pbool rfl rfl ?_
  refine l_split 88 rfl (fun h88 => ?_) (fun h88 => ?_)
  · try simp only [sH] at h88
    refine l_no rfl ?_
    refine l_no rfl ?_
    refine l_no rfl ?_
    refine l_no rfl ?_
    refine l_no rfl ?_
    refine l_no rfl ?_
    refine l_pickT (v := .bool _) rfl rfl rfl ?_
    refine l_nil ?_
    refine w_cond_t rfl ?_
    refine w_seq ?_
    refine w_region ?_
    refine l_pint rfl rfl ?_
    refine l_pslice rfl rfl ?_
    refine l_pint rfl rfl ?_
    refine l_pint rfl rfl ?_
    refine l_nil ?_
    refine w_ret ?_
    refine fin4 rfl rfl rfl rfl ?_
    rw [hibad (.inl (hfe.2.2.1 (by show ¬ (⟨(rText (openR (idxT bs)).1 32 (rInts (openR (idxT bs)).1 (rInts (openR (idxT bs)).1 ⟨0, 0⟩ 3).2 i).2).1.toArray⟩ : ByteArray).size = 32; omega)))]
    exact ⟨_, none, 0, rfl, St.newRow H.drop1.drop1.drop1⟩
  try simp only [sH] at h88
  have hfq := hfe.2.2.2 (by omega) (by omega) (by show (⟨(rText (openR (idxT bs)).1 32 (rInts (openR (idxT bs)).1 (rInts (openR (idxT bs)).1 ⟨0, 0⟩ 3).2 i).2).1.toArray⟩ : ByteArray).size = 32; omega)
  have e2 : (rInts (openR (idxT bs)).1 (rInts (openR (idxT bs)).1 ⟨0, 0⟩ 3).2 i).1 = (footR (openR (idxT bs)).1).2.1 := by rw [hfq]
  obtain rfl : i = (footR (openR (idxT bs)).1).2.1.length := by rw [hfq]; exact hll.symm
  have H := H.drop1.erase 1
  rw [e2] at H
  have hfo := footR_le (openR (idxT bs)).1
  have hfl := footR_len (openR (idxT bs)).1
  have hfst : (rInt (openR (idxT bs)).1 maxI (rInt (openR (idxT bs)).1 maxI ⟨0, 0⟩).2).1 = (footR (openR (idxT bs)).1).1 := by rw [hfq]
  have hfok : (footR (openR (idxT bs)).1).2.2 = true := by rw [hfq]
  rw [hfst]
  clear hfe hfq e2 hll hi1 hi2
  generalize footR (openR (idxT bs)).1 = fo at *
  refine l_pint rfl rfl ?_
  refine l_pbool rfl rfl ?_
  refine l_pslice rfl rfl ?_
  refine l_v rfl (q_lenSlice rfl el_66 rfl) ?_
  refine l_pbool rfl rfl ?_
  refine l_v rfl (q_neqBool rfl bo_4 rfl rfl) ?_
  refine l_pickF (v := .bool _) rfl rfl rfl ?_
  refine l_nil ?_
  refine w_cond rfl (fun c5 => ?_) (fun c5 => ?_)
  · try simp only [sH] at c5
    refine w_seq ?_
    refine w_region ?_
    refine l_pint rfl rfl ?_
    refine l_pslice rfl rfl ?_
    refine l_pint rfl rfl ?_
    refine l_pint rfl rfl ?_
    refine l_nil ?_
    refine w_ret ?_
    refine fin4 rfl rfl rfl rfl ?_
    rw [hibad (.inr (.inl fun h => by rw [neq_zero.2 h] at c5; cases c5))]
    exact ⟨_, none, 0, rfl, St.newRow H.drop1⟩
  try simp only [sH] at c5
  refine w_skip ?_
  refine w_seq ?_
  refine w_seq ?_
  refine w_region ?_
  refine l_pint rfl rfl ?_
  refine l_nil ?_
  refine w_block ?_
  refine w_loopG (G := Nat) [2, 3, 4, 5, 17, 96, 97, 98, 99, 100, 101, 102, 103, 104, 105, 106, 107, 108, 109, 110, 111, 112, 113, 114, 115, 116, 117, 118, 119, 120, 121, 122, 123, 124, 125, 126, 127, 128, 129, 130] (fun k => [(17, I ((k : Nat) : Int))]) (fun m k w => m + k = fo.2.1.length ∧ plGo fo.2.1 ((bs.length - 4) - (idxN bs)) k = true ∧ St W w (row 3 1 la fo.2.1.length lc (natsV fo.2.1) :: F)) (fun _ => rfl) ?_ ?_
  · exact ⟨fo.2.1.length, 0, ⟨rfl, trivial⟩, rfl, rfl, H⟩
  rintro m k ρ1 w ⟨hmi, hpg, H⟩
  refine w_seq ?_
  refine w_seq ?_
  refine w_region ?_
  refine l_pint rfl rfl ?_
  refine l_pslice rfl rfl ?_
  refine l_v rfl (q_lenSlice rfl el_66 rfl) ?_
  refine l_pbool rfl rfl ?_
  refine l_nil ?_
  refine w_cond rfl (fun c6 => ?_) (fun c6 => ?_)
  · try simp only [sH] at c6
    have hk : k < fo.2.1.length := by omega
    obtain ⟨pb, po, hpa, _⟩ := nat_at ((RdIn.row (W := W) 0 rfl).use H 0 rfl) hk
    have hfx := hfo.2 _ (List.getElem_mem hk)
    have hgd : 0 < k → fo.2.1.getD (k - 1) 0 = fo.2.1[k - 1]'(by omega) := fun h => by simp [List.getD, show k - 1 < fo.2.1.length by omega]
    refine w_skip ?_
    refine w_seq ?_
    refine w_block ?_
    refine w_seq ?_
    refine w_drawT [] [3, 9, 20, 25] [(0, 0), (1, 0), (2, 0), (3, 1), (4, 0), (5, 0), (6, 0), (7, 0), (8, 0), (9, 1), (10, 0), (11, 0), (12, 0), (13, 0), (14, 0), (15, 0), (16, 0), (17, 0), (18, 0), (19, 0), (20, 1), (21, 0), (22, 0), (23, 0), (24, 0), (25, 1), (26, 0), (27, 0), (28, 0)] mixed (by kernel_rfl) (fun _ _ _ h => fin_panic h) H (fun H => ?_)
    refine r_pslice rfl rfl rfl ?_
    refine r_pint rfl rfl rfl ?_
    refine r_w rfl rfl (fun w => q_indexSliceE k rfl el_66 rfl hpa rfl rfl hk) ?_
    refine r_v rfl rfl (fun w hS => q_load1 rfl c1_3 rfl (nat_c hpa ((RdIn.row (W := W) 0 rfl).use hS 0 rfl) hk)) ?_
    refine r_pbool rfl rfl rfl ?_
    refine r_pbool rfl rfl rfl ?_
    refine r_split 107 rfl (fun h107 => ?_) (fun h107 => ?_)
    · try simp only [sH] at h107
      refine r_no rfl rfl ?_
      refine r_no rfl rfl ?_
      refine r_no rfl rfl ?_
      refine r_no1 rfl rfl ?_
      refine r_no rfl rfl ?_
      refine r_no rfl rfl ?_
      refine r_pickT (v := .bool _) rfl rfl rfl rfl ?_
      refine r_pbool rfl rfl rfl ?_
      refine r_no rfl rfl ?_
      refine r_no rfl rfl ?_
      refine r_no rfl rfl ?_
      refine r_no rfl rfl ?_
      refine r_no rfl rfl ?_
      refine r_no rfl rfl ?_
      refine r_no1 rfl rfl ?_
      refine r_no rfl rfl ?_
      refine r_no rfl rfl ?_
      refine r_no rfl rfl ?_
      refine r_no rfl rfl ?_
      refine r_no1 rfl rfl ?_
      refine r_no rfl rfl ?_
      refine r_no rfl rfl ?_
      refine r_pickT (v := .bool _) rfl rfl rfl rfl ?_
      refine r_nil ?_
      refine w_cond_t rfl ?_
      refine w_seq ?_
      refine w_region ?_
      refine l_pint rfl rfl ?_
      refine l_pslice rfl rfl ?_
      refine l_pint rfl rfl ?_
      refine l_pint rfl rfl ?_
      refine l_nil ?_
      refine w_ret ?_
      refine fin4 rfl rfl rfl rfl ?_
      rw [hibad (.inr (.inr (plGo_bad hk (.inl (by omega)))))]
      exact ⟨_, none, 0, rfl, St.newRow H.drop1⟩
    try simp only [sH] at h107
    refine r_pslice rfl rfl rfl ?_
    refine r_pint rfl rfl rfl ?_
    refine r_w rfl rfl (fun w => q_indexSliceE k rfl el_66 rfl hpa rfl rfl hk) ?_
    refine r_v rfl rfl (fun w hS => q_load1 rfl c1_3 rfl (nat_c hpa ((RdIn.row (W := W) 0 rfl).use hS 0 rfl) hk)) ?_
    refine r_pint rfl rfl rfl ?_
    refine r_pbool rfl rfl rfl ?_
    refine r_pickF (v := .bool _) rfl rfl rfl rfl ?_
    refine r_pbool rfl rfl rfl ?_
    refine r_split 115 rfl (fun h115 => ?_) (fun h115 => ?_)
    · try simp only [sH] at h115
      refine r_no rfl rfl ?_
      refine r_no rfl rfl ?_
      refine r_no rfl rfl ?_
      refine r_no rfl rfl ?_
      refine r_no rfl rfl ?_
      refine r_no rfl rfl ?_
      refine r_no1 rfl rfl ?_
      refine r_no rfl rfl ?_
      refine r_no rfl rfl ?_
      refine r_no rfl rfl ?_
      refine r_no rfl rfl ?_
      refine r_no1 rfl rfl ?_
      refine r_no rfl rfl ?_
      refine r_no rfl rfl ?_
      refine r_pickT (v := .bool _) rfl rfl rfl rfl ?_
      refine r_nil ?_
      refine w_cond_t rfl ?_
      refine w_seq ?_
      refine w_region ?_
      refine l_pint rfl rfl ?_
      refine l_pslice rfl rfl ?_
      refine l_pint rfl rfl ?_
      refine l_pint rfl rfl ?_
      refine l_nil ?_
      refine w_ret ?_
      refine fin4 rfl rfl rfl rfl ?_
      rw [hibad (.inr (.inr (plGo_bad hk (.inr (.inl (by omega))))))]
      exact ⟨_, none, 0, rfl, St.newRow H.drop1⟩
    try simp only [sH] at h115
    refine r_pint rfl rfl rfl ?_
    refine r_pbool rfl rfl rfl ?_
    refine r_pbool rfl rfl rfl ?_
    refine r_split 118 rfl (fun h118 => ?_) (fun h118 => ?_)
    · try simp only [sH] at h118
      refine r_pslice rfl rfl rfl ?_
      refine r_pint rfl rfl rfl ?_
      refine r_w rfl rfl (fun w => q_indexSliceE k rfl el_66 rfl hpa rfl rfl hk) ?_
      refine r_v rfl rfl (fun w hS => q_load1 rfl c1_3 rfl (nat_c hpa ((RdIn.row (W := W) 0 rfl).use hS 0 rfl) hk)) ?_
      refine r_pslice rfl rfl rfl ?_
      refine r_pint rfl rfl rfl ?_
      first | refine r_w rfl rfl (fun w => q_sub rfl rfl rfl (by simp only [inK]; omega)) ?_ | refine r_pint rfl rfl rfl ?_
      refine r_w rfl rfl (fun w => q_indexSliceE (k - 1) rfl el_66 rfl hpa rfl (by omega) (by omega)) ?_
      refine r_v rfl rfl (fun w hS => q_load1 rfl c1_3 rfl (nat_c (i := k - 1) hpa ((RdIn.row (W := W) 0 rfl).use hS 0 rfl) (by omega))) ?_
      refine r_pbool rfl rfl rfl ?_
      refine r_pickT (v := .bool _) rfl rfl rfl rfl ?_
      refine r_pickF (v := .bool _) rfl rfl rfl rfl ?_
      refine r_nil ?_
      refine w_cond rfl (fun c7 => ?_) (fun c7 => ?_)
      · try simp only [sH] at c7
        refine w_seq ?_
        refine w_region ?_
        refine l_pint rfl rfl ?_
        refine l_pslice rfl rfl ?_
        refine l_pint rfl rfl ?_
        refine l_pint rfl rfl ?_
        refine l_nil ?_
        refine w_ret ?_
        refine fin4 rfl rfl rfl rfl ?_
        rw [hibad (.inr (.inr (plGo_bad hk (.inr (.inr ⟨by omega, by omega⟩)))))]
        exact ⟨_, none, 0, rfl, St.newRow H.drop1⟩
      try simp only [sH] at c7
      refine w_skip ?_
      refine w_region ?_
      refine l_pint rfl rfl ?_
      first | refine l_v rfl (q_add rfl rfl rfl (by simp only [inK]; omega)) ?_ | refine l_pint rfl rfl ?_
      refine l_pint rfl rfl ?_
      refine l_nil ?_
      refine ⟨by repeat' first | exact aM | exact aR | refine aI rfl ?_ | refine aU rfl ?_ | refine aL rfl ?_, ?_⟩
      refine ⟨m - 1, k + 1, by omega, ⟨by exact congrArg (Value.int IntKind.i64) (Int.natCast_succ k).symm, trivial⟩, by omega, plGo_step hk hpg (by omega) (by omega) (fun h => by omega), H⟩
    try simp only [sH] at h118
    refine r_no rfl rfl ?_
    refine r_no rfl rfl ?_
    refine r_no rfl rfl ?_
    refine r_no1 rfl rfl ?_
    refine r_no rfl rfl ?_
    refine r_no rfl rfl ?_
    refine r_no rfl rfl ?_
    refine r_no rfl rfl ?_
    refine r_no1 rfl rfl ?_
    refine r_no rfl rfl ?_
    refine r_pickF (v := .bool _) rfl rfl rfl rfl ?_
    refine r_pickF (v := .bool _) rfl rfl rfl rfl ?_
    refine r_nil ?_
    refine w_cond_f rfl ?_
    refine w_skip ?_
    refine w_region ?_
    refine l_pint rfl rfl ?_
    first | refine l_v rfl (q_add rfl rfl rfl (by simp only [inK]; omega)) ?_ | refine l_pint rfl rfl ?_
    refine l_pint rfl rfl ?_
    refine l_nil ?_
    refine ⟨by repeat' first | exact aM | exact aR | refine aI rfl ?_ | refine aU rfl ?_ | refine aL rfl ?_, ?_⟩
    refine ⟨m - 1, k + 1, by omega, ⟨by exact congrArg (Value.int IntKind.i64) (Int.natCast_succ k).symm, trivial⟩, by omega, plGo_step hk hpg (by omega) (by omega) (fun h => absurd h (by omega)), H⟩
  try simp only [sH] at c6
  obtain rfl : k = fo.2.1.length := by omega
  refine w_exit ?_
  refine w_seq ?_
  refine w_region ?_
  refine l_pint rfl rfl ?_
  refine l_pslice rfl rfl ?_
  refine l_pint rfl rfl ?_
  refine l_pint rfl rfl ?_
  refine l_pslice rfl rfl ?_
  refine l_pint rfl rfl ?_
  refine l_pint rfl rfl ?_
  refine l_nil ?_
  refine w_ret ?_
  refine fin4 rfl rfl rfl rfl ?_
  rw [higood (by
    rintro (h | h | h)
    · rw [h] at hfok; cases hfok
    · exact h (neq_zero.1 c5)
    rw [hpg] at h; cases h)]
  exact ⟨_, la, lc, rfl, H⟩
end Go.Proofs.YtfpmnhmdphaceaaDoor
