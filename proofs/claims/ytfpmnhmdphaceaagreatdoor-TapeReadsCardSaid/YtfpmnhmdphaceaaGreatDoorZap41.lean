/- A part of this claim: laws of the tape's functions and of plain lists; no conditions beyond those that the theorems name. -/
import Derived.Test.YtfpmnhmdphaceaaGreatDoorZap40
import Derived.Test.YtfpmnhmdphaceaaGreatDoorZap11
namespace Go.Proofs.YtfpmnhmdphaceaaGreatDoor
open Go.EW
attribute [local irreducible] EW.W EW.L EW.fin block8 outB shaL
set_option linter.unusedVariables false
set_option linter.unusedSimpArgs false
attribute [local irreducible] crcN crcB crcL sealL openR sealR
def Tx.segF (t : Tx) : Seg := rowF 5 1 t.a t.bs.length t.c (t.bs.map B)
theorem txs_segsF {W : World} {S : List Seg} {txs : List Tx} (i : Nat) (hi : S[i]? = some (Segs (txs.map Tx.segF))) (hb : ∀ t ∈ txs, t.bs.length ≤ 100000) : TxsOk W S txs := fun t ht => by
  obtain ⟨j, hj, rfl⟩ := List.getElem_of_mem ht
  exact ⟨RdIn.segsF i hi j (by rw [List.getElem?_map, List.getElem?_eq_getElem hj]; rfl), hb _ ht⟩
theorem TxsOk.up {W : World} {F S : List Seg} {l : List Tx} (h : TxsOk W F l) (k : Nat) (hk : S.drop k = F) : TxsOk W S l := fun x hx => ⟨(h x hx).1.up k hk, (h x hx).2⟩
theorem cat_take {ts : List Tx} {i : Nat} (hi : i < ts.length) : catL ((ts.take (i + 1)).map Tx.bs) = catL ((ts.take i).map Tx.bs) ++ formL ts[i].bs.length ++ ts[i].bs := by
  rw [List.take_succ_eq_append_getElem hi, List.map_append]
  exact cat_snoc _ _
theorem size_take {ts : List Tx} (h : ∀ t ∈ ts, t.bs.length ≤ 100000) (i : Nat) : (catL ((ts.take i).map Tx.bs)).length ≤ ts.length * 100009 := by
  rw [cat_len]
  have h1 := sizeT_le ((ts.take i).map Tx.bs) 100000 (fun t ht => by
    obtain ⟨x, hx, rfl⟩ := List.mem_map.1 ht
    exact h x (List.mem_of_mem_take hx))
  rw [List.length_map, List.length_take] at h1
  have h2 : min i ts.length * (9 + 100000) ≤ ts.length * (9 + 100000) := Nat.mul_le_mul_right _ (Nat.min_le_right _ _)
  exact Nat.le_trans h1 h2
theorem getEv_nil : (getEv []).2 = 10 := by kernel_rfl
theorem rText_bad {b : List UInt8} {m : Nat} {s : Rs} (h : s.err ≠ 0) : (rText b m s).1 = [] ∧ (rText b m s).2 = s := by unfold rText; rw [if_pos h]; exact ⟨rfl, rfl⟩
theorem ego_bad {b : List UInt8} {s s' : Rs} {i : Nat} {l : List Evt} {ts : List (List UInt8)} (h : ego b s i = some (l, ts, s')) (he : s'.err ≠ 0) : ego b s (i + 1) = none := by
  rw [ego, h]
  simp only []
  rw [(rText_bad he).1, if_pos (by rw [getEv_nil]; decide)]
/-- a number of at most 32, a number of any size -/
theorem rInt32 (b : List UInt8) (s : Rs) : rInt b 32 s = rInt b maxI s ∨ ((rInt b 32 s).2.err ≠ 0 ∧ (rInt b 32 s).1 = 0 ∧ 32 < (rInt b maxI s).1) := by
  unfold rInt
  by_cases h1 : s.err ≠ 0
  · rw [if_pos h1, if_pos h1]; exact .inl rfl
  rw [if_neg h1, if_neg h1]
  by_cases h2 : (getN b s.at_).2.2 ≠ 0
  · rw [if_pos h2, if_pos h2]; exact .inl rfl
  rw [if_neg h2, if_neg h2]
  by_cases h3 : 32 < (getN b s.at_).1
  · rw [if_pos h3]
    have hm : maxI = 9223372036854775807 := rfl
    by_cases h4 : maxI < (getN b s.at_).1
    · rw [if_pos h4]; exact .inl rfl
    rw [if_neg h4]; exact .inr ⟨by show 11 ≠ 0; decide, rfl, h3⟩
  rw [if_neg h3, if_neg (by have hm : maxI = 9223372036854775807 := rfl; omega)]; exact .inl rfl
theorem evR_none {b : List UInt8} {j : Nat} (hj : j ≤ (rInt b 32 (rInts b ⟨0, 0⟩ 2).2).1) (h : ego b (rInt b 32 (rInts b ⟨0, 0⟩ 2).2).2 j = none) : (eventsR b).2.2.2 = false := by
  unfold eventsR
  split
  · rfl
  rename_i hk
  have e2 : (rInts b ⟨0, 0⟩ 3).1.getD 2 0 = (rInt b maxI (rInts b ⟨0, 0⟩ 2).2).1 := rfl
  have e3 : (rInts b ⟨0, 0⟩ 3).2 = (rInt b maxI (rInts b ⟨0, 0⟩ 2).2).2 := rfl
  rw [e2] at hk
  rcases rInt32 b (rInts b ⟨0, 0⟩ 2).2 with h1 | ⟨_, _, h1⟩
  · rw [h1] at hj h
    rw [e2, e3, ego_none h _ hj]
  omega
theorem evR_a {b : List UInt8} (h : (rInt b maxI ⟨0, 0⟩).1 ≠ 2 ∨ (rInt b 32 (rInts b ⟨0, 0⟩ 2).2).1 < 1) : (eventsR b).2.2.2 = false := by
  have e0 : (rInts b ⟨0, 0⟩ 3).1.getD 0 0 = (rInt b maxI ⟨0, 0⟩).1 := rfl
  have e2 : (rInts b ⟨0, 0⟩ 3).1.getD 2 0 = (rInt b maxI (rInts b ⟨0, 0⟩ 2).2).1 := rfl
  unfold eventsR
  rw [if_pos]
  rw [e0, e2]
  rcases rInt32 b (rInts b ⟨0, 0⟩ 2).2 with h1 | ⟨_, _, h1⟩
  · rw [h1] at h; omega
  omega
theorem evR_end {b : List UInt8} {i : Nat} {l : List Evt} {ts : List (List UInt8)} {s : Rs} (hie : i ≤ (rInt b 32 (rInts b ⟨0, 0⟩ 2).2).1 ∧ (i = (rInt b 32 (rInts b ⟨0, 0⟩ 2).2).1 ∨ s.err ≠ 0)) (hg : ego b (rInt b 32 (rInts b ⟨0, 0⟩ 2).2).2 i = some (l, ts, s)) :
    (rEnd b s ≠ 0 → (eventsR b).2.2.2 = false) ∧ (rEnd b s = 0 → (rInt b maxI ⟨0, 0⟩).1 = 2 → 1 ≤ (rInt b 32 (rInts b ⟨0, 0⟩ 2).2).1 → eventsR b = ((rInt b maxI (rInt b maxI ⟨0, 0⟩).2).1, l, ts, true)) := by
  have e0 : (rInts b ⟨0, 0⟩ 3).1.getD 0 0 = (rInt b maxI ⟨0, 0⟩).1 := rfl
  have e1 : (rInts b ⟨0, 0⟩ 3).1.getD 1 0 = (rInt b maxI (rInt b maxI ⟨0, 0⟩).2).1 := rfl
  have e2 : (rInts b ⟨0, 0⟩ 3).1.getD 2 0 = (rInt b maxI (rInts b ⟨0, 0⟩ 2).2).1 := rfl
  have e3 : (rInts b ⟨0, 0⟩ 3).2 = (rInt b maxI (rInts b ⟨0, 0⟩ 2).2).2 := rfl
  have h32 := rInt_le (b := b) (m := 32) (s := (rInts b ⟨0, 0⟩ 2).2)
  constructor
  · intro he
    by_cases hs : s.err ≠ 0 ∧ i < (rInt b 32 (rInts b ⟨0, 0⟩ 2).2).1
    · exact evR_none hs.2 (ego_bad hg hs.1)
    have hi : i = (rInt b 32 (rInts b ⟨0, 0⟩ 2).2).1 := by omega
    unfold eventsR
    split
    · rfl
    rename_i hk
    rw [e2] at hk
    rcases rInt32 b (rInts b ⟨0, 0⟩ 2).2 with h1 | ⟨_, _, h1⟩
    · rw [h1] at hi hg
      subst hi
      rw [e2, e3, hg]
      exact decide_eq_false he
    omega
  intro he ha hn
  have hs := (rEnd_good he).1
  have hi : i = (rInt b 32 (rInts b ⟨0, 0⟩ 2).2).1 := by omega
  rcases rInt32 b (rInts b ⟨0, 0⟩ 2).2 with h1 | ⟨_, h1, _⟩
  · rw [h1] at hi hg hn h32
    subst hi
    unfold eventsR
    rw [if_neg (by rw [e0, e2]; omega), e1, e2, e3, hg]
    simp only []
    rw [decide_eq_true he]
  omega
set_option maxHeartbeats 1000000 in
theorem chunk_r {W w : World} {F : List Seg} (H : St W w F) {f k : Nat} {ta : Option Addr} {tc : Nat} {ts : List Tx} (hr : RdIn W F ta (ts.map Tx.v)) (hk : ts.length = k) (htx : TxsOk W F ts) (hts : ts.length ≤ 64) (hf : f ≤ 9223372036854775807) :
    Ok Tryz.prog 44 [I (f : Int), .slice ta k tc].toArray w (fun r w' => ∃ a' c', r = .slice a' (chunkB f (ts.map Tx.bs)).length c' ∧ St W w' (row 5 1 a' (chunkB f (ts.map Tx.bs)).length c' ((chunkB f (ts.map Tx.bs)).map B) :: F)) := by
  subst hk
  have hz2 := formL_len 2
  have hzf := formL_len f
  have hzk := formL_len ts.length
  have hsz := fun i => size_take (fun t ht => (htx t ht).2) i
  refine enter (n := 33) (rs := #[.tmp 4]) Tryz.func44 rfl rfl rfl rfl ?_
  refine w_seq ?_
  refine w_region ?_
  refine l_pslice rfl rfl ?_
  refine l_nil ?_
  refine w_seq ?_
  refine w_region ?_
  refine b_call rfl cb_34 rfl (rput_ok (n := 2) (bs := []) (St.newRow (T := 5) (sz := 1) H) (by decide) (by decide)) (fun v w hv => ?_)
  obtain ⟨a1, c1, rfl, H⟩ := hv
  refine l_pint rfl rfl ?_
  refine b_call rfl cb_34 rfl (rput_ok (n := f) H (by omega) (by rw [List.nil_append]; omega)) (fun v w hv => ?_)
  obtain ⟨a2, c2, rfl, H⟩ := hv
  refine l_pslice rfl rfl ?_
  refine l_v rfl (q_lenSlice rfl el_37 rfl) ?_
  refine b_call rfl cb_34 rfl (rput_ok (n := ts.length) H (by omega) (by simp only [List.length_append, List.nil_append]; omega)) (fun v w hv => ?_)
  obtain ⟨a3, c3, rfl, H⟩ := hv
  rw [List.nil_append] at H ⊢
  refine l_pslice rfl rfl ?_
  refine l_nil ?_
  refine w_seq ?_
  refine w_seq ?_
  refine w_region ?_
  refine l_pint rfl rfl ?_
  refine l_nil ?_
  refine w_block ?_
  refine w_loopG (G := Nat × Option Addr × Nat) [5, 6, 13, 14, 15, 16, 17, 18, 19, 20, 21, 22, 23, 24, 25, 26, 27, 28, 29, 30, 31] (fun ⟨i, xa, xc⟩ => [(5, .slice xa (formL 2 ++ formL f ++ formL ts.length ++ catL ((ts.take i).map Tx.bs)).length xc), (6, I ((i : Nat) : Int))]) (fun m ⟨i, xa, xc⟩ w => m + i = ts.length ∧ St W w (row 5 1 xa (formL 2 ++ formL f ++ formL ts.length ++ catL ((ts.take i).map Tx.bs)).length xc ((formL 2 ++ formL f ++ formL ts.length ++ catL ((ts.take i).map Tx.bs)).map B) :: F)) (fun _ => rfl) ?_ ?_
  · refine ⟨ts.length, (0, a3, c3), ⟨?_, rfl, trivial⟩, rfl, ?_⟩
    · rw [List.take_zero, List.map_nil, show catL [] = [] from rfl, List.append_nil]; rfl
    rw [List.take_zero, List.map_nil, show catL [] = [] from rfl, List.append_nil]; exact H
  rintro m ⟨i, xa, xc⟩ ρ1 w ⟨hmi, H⟩
  refine w_seq ?_
  refine w_seq ?_
  refine w_region ?_
  refine l_pint rfl rfl ?_
  refine l_pslice rfl rfl ?_
  refine l_v rfl (q_lenSlice rfl el_37 rfl) ?_
  refine l_pbool rfl rfl ?_
  refine l_nil ?_
  refine w_cond rfl (fun c1 => ?_) (fun c1 => ?_)
  · try simp only [sH] at c1
    have hi : i < ts.length := by omega
    have hib := (htx _ (List.getElem_mem hi)).2
    obtain ⟨tb, to_, hta, _⟩ := rd_cell (hr.use H 1 rfl) (txv_get hi)
    refine w_skip ?_
    refine w_seq ?_
    refine w_block ?_
    refine w_seq ?_
    refine w_region ?_
    refine l_pslice rfl rfl ?_
    refine l_pslice rfl rfl ?_
    refine l_pint rfl rfl ?_
    refine l_v rfl (q_indexSliceE i rfl el_37 rfl hta rfl rfl hi) ?_
    refine l_v rfl (q_load1 (v := .slice ts[i].a ts[i].bs.length ts[i].c) rfl c1_50 rfl (rd_at hta (hr.use H 1 rfl) (txv_get hi))) ?_
    refine l_v rfl (q_lenSlice rfl el_50 rfl) ?_
    refine b_call rfl cb_34 rfl (rput_ok (n := ts[i].bs.length) H (by omega) (by have := hsz i; simp only [List.length_append]; omega)) (fun v w hv => ?_)
    obtain ⟨a25, c25, rfl, H⟩ := hv
    refine l_pslice rfl rfl ?_
    refine l_nil ?_
    refine w_region ?_
    refine l_pslice rfl rfl ?_
    refine l_pslice rfl rfl ?_
    refine l_pint rfl rfl ?_
    refine l_v rfl (q_indexSliceE i rfl el_37 rfl hta rfl rfl hi) ?_
    refine l_v rfl (q_load1 (v := .slice ts[i].a ts[i].bs.length ts[i].c) rfl c1_50 rfl (rd_at hta (hr.use H 1 rfl) (txv_get hi))) ?_
    refine b_append rfl el_50 ze_5 rfl rfl rfl H 0 rfl (ys := ts[i].bs.map B) ((htx _ (List.getElem_mem hi)).1.use H 1 rfl) (by simp) (EW.oneB _) ⟨by have := hsz i; have := formL_len ts[i].bs.length; simp only [List.length_append]; omega, by have := hsz i; have := formL_len ts[i].bs.length; simp only [maxLen, List.length_append]; omega⟩ (fun a31 c31 w H => ?_)
    refine l_pslice rfl rfl ?_
    refine l_nil ?_
    refine w_region ?_
    refine l_pint rfl rfl ?_
    first | refine l_v rfl (q_add rfl rfl rfl (by simp only [inK]; omega)) ?_ | refine l_pint rfl rfl ?_
    refine l_pint rfl rfl ?_
    refine l_nil ?_
    refine ⟨by repeat' first | exact aM | exact aR | refine aI rfl ?_ | refine aU rfl ?_ | refine aL rfl ?_, ?_⟩
    have hct : formL 2 ++ formL f ++ formL ts.length ++ catL ((ts.take (i + 1)).map Tx.bs) = formL 2 ++ formL f ++ formL ts.length ++ catL ((ts.take i).map Tx.bs) ++ formL ts[i].bs.length ++ ts[i].bs := by rw [cat_take hi]; simp only [List.append_assoc]
    have hcl : (formL 2 ++ formL f ++ formL ts.length ++ catL ((ts.take (i + 1)).map Tx.bs)).length = (formL 2 ++ formL f ++ formL ts.length ++ catL ((ts.take i).map Tx.bs) ++ formL ts[i].bs.length).length + ts[i].bs.length := by rw [hct]; exact List.length_append
    refine ⟨m - 1, (i + 1, a31, c31), by omega, ⟨by show _ = Value.slice a31 (formL 2 ++ formL f ++ formL ts.length ++ catL ((ts.take (i + 1)).map Tx.bs)).length c31; rw [hcl]; rfl, by exact congrArg (Value.int IntKind.i64) (Int.natCast_succ i).symm, trivial⟩, by omega, ?_⟩
    rw [hcl, hct, List.map_append (l₂ := ts[i].bs)]
    exact H
  try simp only [sH] at c1
  obtain rfl : i = ts.length := by omega
  refine w_exit ?_
  refine w_seq ?_
  refine w_region ?_
  refine l_pslice rfl rfl ?_
  refine l_pslice rfl rfl ?_
  refine l_nil ?_
  refine w_ret ?_
  refine fin1 (v := .slice _ _ _) rfl ?_
  refine ⟨xa, xc, ?_, ?_⟩
  · unfold chunkB; rw [List.take_length, List.length_map]
  unfold chunkB; rw [List.take_length] at H; rw [List.length_map]; exact H
set_option maxRecDepth 8000 in
set_option maxHeartbeats 1000000 in
theorem getChunk_r {W w : World} {F : List Seg} (H : St W w F) {a : Option Addr} {n c : Nat} {bs : List UInt8} (hr : RdIn W F a (bs.map B)) (hl : bs.length = n) (hcp : bs.length ≤ c) (hn : n ≤ 100000) :
    Ok Tryz.prog 82 [.slice a n c].toArray w (fun r w' => ∃ x ta tc, ∃ txs : List Tx, r = .tuple #[I (x : Nat), .slice ta txs.length tc, .bool (eventsR bs).2.2.2] ∧ ((eventsR bs).2.2.2 = true → x = (eventsR bs).1 ∧ txs.map Tx.bs = (eventsR bs).2.2.1) ∧ St W w' (row 50 1 ta txs.length tc (txs.map Tx.v) :: Segs (txs.map Tx.segF) :: F)) := by
  subst hl
  have hmx : maxI = 9223372036854775807 := rfl
  have h32 := rInt32 bs (rInts bs ⟨0, 0⟩ 2).2
  have hn32 := rInt_le (b := bs) (m := 32) (s := (rInts bs ⟨0, 0⟩ 2).2)
  refine enter (n := 71) (rs := #[.tmp 2, .tmp 3, .tmp 4]) Tryz.func82 rfl rfl rfl rfl ?_
  refine w_seq ?_
  refine w_region ?_
  refine l_pint rfl rfl ?_
  refine l_pslice rfl rfl ?_
  refine l_pbool rfl rfl ?_
  refine l_nil ?_
  refine w_seq ?_
  refine w_region ?_
  refine l_pslice rfl rfl ?_
  refine l_v rfl (q_build (cs := [.slice a bs.length c, .int .i64 0, .int .i64 0]) rfl sp_189 rfl) ?_
  refine b_box (cs := [.slice a bs.length c, .int .i64 0, .int .i64 0]) rfl rfl rfl H (fun rb w H => ?_)
  have H : St W w (refL rb a c bs ⟨0, 0⟩ F) := H
  refine l_pptr rfl rfl ?_
  refine l_nil ?_
  refine w_seq ?_
  refine w_region ?_
  refine l_pptr rfl rfl ?_
  refine b_call rfl cb_102 rfl (rInt_ok (mo := maxI) H hr hcp (rs0 bs) (by omega) (by decide)) (fun v w hv => ?_)
  obtain ⟨rfl, H⟩ := hv
  refine l_pint rfl rfl ?_
  refine l_nil ?_
  refine w_seq ?_
  refine w_region ?_
  refine l_pptr rfl rfl ?_
  refine b_call rfl cb_102 rfl (rInt_ok (mo := maxI) H hr hcp (rInt_ok2 (rs0 bs)) (by omega) (by decide)) (fun v w hv => ?_)
  obtain ⟨rfl, H⟩ := hv
  have H : St W w (refL rb a c bs (rInts bs ⟨0, 0⟩ 2).2 F) := H
  refine l_pint rfl rfl ?_
  refine l_nil ?_
  refine w_seq ?_
  refine w_region ?_
  refine l_pptr rfl rfl ?_
  refine b_call rfl cb_102 rfl (rInt_ok (mo := 32) H hr hcp (rInts_ok2 (rs0 bs) 2) (by omega) (by decide)) (fun v w hv => ?_)
  obtain ⟨rfl, H⟩ := hv
  refine l_pint rfl rfl ?_
  refine l_nil ?_
  refine w_seq ?_
  refine w_region ?_
  refine l_pslice rfl rfl ?_
  refine l_nil ?_
  refine w_cutG (G := Nat × Option Addr × Nat × List Tx × Rs) [2, 3, 4, 9, 10, 11, 12, 13, 23, 24, 25, 26, 27, 28, 29, 30, 31, 32, 33, 34, 35, 36, 37, 38, 39, 40, 41, 42, 43, 44, 45, 46, 47, 48] (fun ⟨i, ta, tc, txs, s⟩ => [(9, .slice ta txs.length tc), (10, I ((i : Nat) : Int))]) (fun ⟨i, ta, tc, txs, s⟩ w => (i ≤ (rInt bs 32 (rInts bs ⟨0, 0⟩ 2).2).1 ∧ (i = (rInt bs 32 (rInts bs ⟨0, 0⟩ 2).2).1 ∨ s.err ≠ 0)) ∧ txs.length = i ∧ RsOk2 bs s ∧ (∃ l, ego bs (rInt bs 32 (rInts bs ⟨0, 0⟩ 2).2).2 i = some (l, txs.map Tx.bs, s)) ∧ (∀ t ∈ txs, t.bs.length ≤ 32768) ∧ St W w (refL rb a c bs s (row 50 1 ta txs.length tc (txs.map Tx.v) :: Segs (txs.map Tx.segF) :: F))) (fun _ => rfl) ?_ ?_
  · refine w_seq ?_
    refine w_region ?_
    refine l_pint rfl rfl ?_
    refine l_nil ?_
    refine w_block ?_
    refine w_loopG (G := Nat × Option Addr × Nat × List Tx × Rs) [2, 3, 4, 9, 10, 11, 12, 13, 23, 24, 25, 26, 27, 28, 29, 30, 31, 32, 33, 34, 35, 36, 37, 38, 39, 40, 41, 42, 43, 44, 45, 46, 47, 48] (fun ⟨i, ta, tc, txs, s⟩ => [(9, .slice ta txs.length tc), (10, I ((i : Nat) : Int))]) (fun m ⟨i, ta, tc, txs, s⟩ w => m + i = (rInt bs 32 (rInts bs ⟨0, 0⟩ 2).2).1 ∧ txs.length = i ∧ RsOk2 bs s ∧ (∃ l, ego bs (rInt bs 32 (rInts bs ⟨0, 0⟩ 2).2).2 i = some (l, txs.map Tx.bs, s)) ∧ (∀ t ∈ txs, t.bs.length ≤ 32768) ∧ St W w (refL rb a c bs s (row 50 1 ta txs.length tc (txs.map Tx.v) :: Segs (txs.map Tx.segF) :: F))) (fun _ => rfl) ?_ ?_
    · exact ⟨(rInt bs 32 (rInts bs ⟨0, 0⟩ 2).2).1, (0, none, 0, [], (rInt bs 32 (rInts bs ⟨0, 0⟩ 2).2).2), ⟨rfl, rfl, trivial⟩, rfl, rfl, rInt_ok2 (rInts_ok2 (rs0 bs) 2), ⟨[], rfl⟩, fun t h => (by cases h), St.pick [2, 0, 1] (pre := [_, _, _]) rfl (St.newRow (T := 50) (sz := 1) (St.nilseg.2 H)) rfl⟩
    rintro m ⟨i, ta, tc, txs, s⟩ ρ1 w ⟨hmi, htl, hso, ⟨l, hgo⟩, htb, H⟩
    refine w_seq ?_
    refine w_seq ?_
    refine w_region ?_
    refine l_pint rfl rfl ?_
    refine l_pint rfl rfl ?_
    refine l_pbool rfl rfl ?_
    refine l_pbool rfl rfl ?_
    refine l_split 26 rfl (fun h26 => ?_) (fun h26 => ?_)
    · try simp only [sH] at h26
      refine l_pptr rfl rfl ?_
      refine l_pptr rfl rfl ?_
      refine l_v rfl (q_fieldAddr rfl fo189_2 rfl) ?_
      refine l_v rfl (q_load1 rfl c1_3 rfl (by first | exact H.cell 0 rfl rfl | exact H.cell 1 rfl rfl | exact H.cell 2 rfl rfl | exact H.cell 3 rfl rfl)) ?_
      refine l_pbool rfl rfl ?_
      refine l_pickT (v := .bool _) rfl rfl rfl ?_
      refine l_nil ?_
      refine w_cond rfl (fun c1 => ?_) (fun c1 => ?_)
      · try simp only [sH] at c1
        refine w_skip ?_
        refine w_seq ?_
        refine w_block ?_
        refine w_seq ?_
        refine w_region ?_
        refine l_pptr rfl rfl ?_
        refine b_call rfl cb_104 rfl (rText_ok (mo := 32768) H (hr.up 2 rfl) hcp hso (by omega) (by decide)) (fun v w hv => ?_)
        obtain ⟨rfl, H⟩ := hv
        have htm : (rText bs 32768 s).1.length ≤ 32768 := (rText_len (b := bs) (m := 32768) (s := s)).1
        have htl2 : (⟨(rText bs 32768 s).1.toArray⟩ : ByteArray).size ≤ maxLen := by show (rText bs 32768 s).1.length ≤ _; simp only [maxLen]; omega
        refine b_strBytesF rfl st_9 by_50 el_50 rfl htl2 H (fun b37 c37 w H => ?_)
        have hc37 : (rText bs 32768 s).1.length ≤ c37 := (H.rowFInv (i := 0) rfl).2.1
        refine l_pslice rfl rfl ?_
        refine l_nil ?_
        refine w_seq ?_
        refine w_region ?_
        refine l_pslice rfl rfl ?_
        refine b_call rfl cb_84 rfl (rGetEvent_ok H (RdIn.rowF 0 rfl) rfl hc37 (by show (rText bs 32768 s).1.length ≤ _; omega)) (fun v w hv => ?_)
        obtain ⟨ea, ec, rfl, H⟩ := hv
        refine l_ptup rfl rfl ?_
        refine l_pagg rfl rfl ?_
        refine l_pint rfl rfl ?_
        refine b_alloc (cs := evt0.cells none 0) rfl ze_52 rfl H (fun b12 w H => ?_)
        refine b_store (cs' := (getEv (rText bs 32768 s).1).1.cells ea ec) rfl sz_52 rfl rfl rfl rfl rfl H 0 rfl rfl (putL_all rfl) (fun w H => ?_)
        refine l_pint rfl rfl ?_
        refine l_nil ?_
        refine w_seq ?_
        refine w_seq ?_
        refine w_region ?_
        refine l_pint rfl rfl ?_
        refine l_pbool rfl rfl ?_
        refine l_nil ?_
        refine w_cond rfl (fun c2 => ?_) (fun c2 => ?_)
        · try simp only [sH] at c2
          refine w_seq ?_
          refine w_region ?_
          refine l_pint rfl rfl ?_
          refine l_pslice rfl rfl ?_
          refine l_pbool rfl rfl ?_
          refine l_nil ?_
          refine w_ret ?_
          refine fin3 rfl rfl rfl ?_
          have hf := evR_none (b := bs) (j := i + 1) (by omega) (by rw [ego, hgo]; exact if_pos (by omega))
          rw [hf]
          exact ⟨0, none, 0, [], rfl, fun h => (by cases h), St.pick [1, 0] (pre := [_, _]) rfl (St.nilseg.2 (St.newRow (T := 50) (sz := 1) (St.pick [] (pre := [_, _, _, _, _, _]) rfl H rfl))) rfl⟩
        try simp only [sH] at c2
        refine w_skip ?_
        refine w_region ?_
        refine l_pslice rfl rfl ?_
        refine l_pslice rfl rfl ?_
        refine b_buildSlice (cs := [.slice (some ⟨b37, 0, none⟩) (rText bs 32768 s).1.length c37]) rfl el_37 ze_50 rfl rfl rfl H (fun b47 w H => ?_)
        refine b_append rfl el_37 ze_50 rfl rfl rfl H 5 rfl (Rd.mk (H.cells0 0 rfl)) rfl (fun u hu => by obtain rfl := List.mem_singleton.1 hu; rfl) ⟨by omega, by simp only [maxLen]; omega⟩ (fun a48 c48 w H => ?_)
        have H := H.drop1
        refine l_pslice rfl rfl ?_
        refine l_nil ?_
        refine w_region ?_
        refine l_pint rfl rfl ?_
        first | refine l_v rfl (q_add rfl rfl rfl (by simp only [inK]; omega)) ?_ | refine l_pint rfl rfl ?_
        refine l_pint rfl rfl ?_
        refine l_nil ?_
        refine ⟨by repeat' first | exact aM | exact aR | refine aI rfl ?_ | refine aU rfl ?_ | refine aL rfl ?_, ?_⟩
        have hgo2 : ego bs (rInt bs 32 (rInts bs ⟨0, 0⟩ 2).2).2 (i + 1) = some (l ++ [(getEv (rText bs 32768 s).1).1], txs.map Tx.bs ++ [(rText bs 32768 s).1], (rText bs 32768 s).2) := by
          rw [ego, hgo]; exact if_neg (by omega)
        refine ⟨m - 1, (i + 1, a48, c48, txs ++ [⟨some ⟨b37, 0, none⟩, c37, (rText bs 32768 s).1⟩], (rText bs 32768 s).2), by omega, ⟨by rw [List.length_append]; rfl, by exact congrArg (Value.int IntKind.i64) (Int.natCast_succ i).symm, trivial⟩, by omega, by rw [List.length_append, htl]; rfl, rText_ok2 hso, ⟨_, by rw [List.map_append]; exact hgo2⟩, fun t h => ?_, ?_⟩
        · rcases List.mem_append.1 h with h | h
          · exact htb t h
          rw [List.mem_singleton.1 h]; exact htm
        rw [List.map_append, List.map_append, List.length_append]
        exact St.pick [1, 2, 0] (pre := [_, _, _]) rfl (St.snocseg.1 (St.pick [5, 2, 3, 4] (pre := [_, _, _, _, _, _]) rfl H rfl)) rfl
      try simp only [sH] at c1
      refine w_exit ?_
      refine ⟨by repeat' first | exact aM | exact aR | refine aI rfl ?_ | refine aU rfl ?_ | refine aL rfl ?_, ?_⟩
      exact ⟨(i, ta, tc, txs, s), ⟨rfl, rfl, trivial⟩, by omega, htl, hso, ⟨l, hgo⟩, htb, H⟩
    try simp only [sH] at h26
    refine l_no rfl ?_
    refine l_no rfl ?_
    refine l_no rfl ?_
    refine l_no rfl ?_
    refine l_no rfl ?_
    refine l_pickF (v := .bool _) rfl rfl rfl ?_
    refine l_nil ?_
    refine w_cond_f rfl ?_
    refine w_exit ?_
    refine ⟨by repeat' first | exact aM | exact aR | refine aI rfl ?_ | refine aU rfl ?_ | refine aL rfl ?_, ?_⟩
    exact ⟨(i, ta, tc, txs, s), ⟨rfl, rfl, trivial⟩, by omega, htl, hso, ⟨l, hgo⟩, htb, H⟩
  rintro ⟨i, ta, tc, txs, s⟩ ρ1 w ⟨hie, htl, hso, ⟨l, hgo⟩, htb, H⟩
  refine w_seq ?_
  refine w_drawT [] [19] [(0, 0), (1, 0), (2, 0), (3, 2), (4, 0), (5, 0), (6, 0), (7, 0), (8, 0), (9, 0), (10, 0), (11, 0), (12, 0), (13, 0), (14, 0), (15, 0), (18, 0), (19, 1), (16, 2), (22, 0), (23, 0), (17, 2), (20, 0), (21, 0), (24, 0)] mixed (by kernel_rfl) (fun _ _ _ h => fin_panic h) H (fun H => ?_)
  refine r_pint rfl rfl rfl ?_
  refine r_pslice rfl rfl rfl ?_
  refine r_pptr rfl rfl rfl ?_
  refine r_do rfl ?_
  refine b_call rfl cb_103 rfl (rEnd_ok H (hr.up 2 rfl) hcp hso (by omega)) (fun v w hv => ?_)
  obtain ⟨rfl, H⟩ := hv
  refine l_nil ⟨fun _ _ => (by first | exact H | exact H.drop1 | exact H.drop1.drop1 | exact H.drop1.drop1.drop1), ?_⟩
  refine r_pbool rfl rfl rfl ?_
  refine r_pbool rfl rfl rfl ?_
  refine r_split 54 rfl (fun h54 => ?_) (fun h54 => ?_)
  · try simp only [sH] at h54
    refine r_pint rfl rfl rfl ?_
    refine r_pbool rfl rfl rfl ?_
    refine r_pickT (v := .bool _) rfl rfl rfl rfl ?_
    refine r_pbool rfl rfl rfl ?_
    refine r_split 58 rfl (fun h58 => ?_) (fun h58 => ?_)
    · try simp only [sH] at h58
      refine r_pint rfl rfl rfl ?_
      refine r_pbool rfl rfl rfl ?_
      refine r_pickT (v := .bool _) rfl rfl rfl rfl ?_
      refine r_pbool rfl rfl rfl ?_
      refine r_split 62 rfl (fun h62 => ?_) (fun h62 => ?_)
      · try simp only [sH] at h62
        refine r_pint rfl rfl rfl ?_
        refine r_pslice rfl rfl rfl ?_
        refine r_pslice rfl rfl rfl ?_
        refine r_v rfl rfl (fun w hS => q_bytesStr (bs := bs) rfl by_50 st_9 rfl (hr.use hS 3 rfl) rfl) ?_
        refine r_do rfl ?_
        refine b_call rfl cb_44 rfl (chunk_r H (RdIn.row 1 rfl) rfl (txs_segsF 2 rfl (fun t h => by have := htb t h; omega)) (by omega) (by have := rInt_le (b := bs) (m := maxI) (s := (rInt bs maxI ⟨0, 0⟩).2); omega)) (fun v w hv => ?_)
        obtain ⟨ka, kc, rfl, H⟩ := hv
        refine l_nil ⟨fun _ _ => (by first | exact H | exact H.drop1 | exact H.drop1.drop1 | exact H.drop1.drop1.drop1), ?_⟩
        refine r_pint rfl rfl rfl ?_
        refine r_pslice rfl rfl rfl ?_
        refine r_do rfl ?_
        refine l_v rfl (q_bytesStr (bs := chunkB (rInt bs maxI (rInt bs maxI ⟨0, 0⟩).2).1 (txs.map Tx.bs)) rfl by_50 st_9 rfl ((H.rowInv (i := 0) rfl).2.2.2.2) rfl) ?_
        refine l_nil ⟨fun _ _ => (by first | exact H | exact H.drop1 | exact H.drop1.drop1 | exact H.drop1.drop1.drop1), ?_⟩
        refine r_w rfl rfl (fun w => q_pure (s_eql rfl rfl)) ?_
        refine r_pickT (v := .bool _) rfl rfl rfl rfl ?_
        refine r_pbool rfl rfl rfl ?_
        refine r_nil ?_
        refine w_ret ?_
        refine fin3 rfl rfl rfl ?_
        have he := (evR_end hie hgo).2 (by omega) (by omega) (by omega)
        have hgd := (eventsR_good (b := bs) (by rw [he])).1
        rw [he] at hgd
        rw [he]
        refine ⟨_, ta, tc, txs, ?_, fun _ => ⟨rfl, rfl⟩, H.drop1.drop1⟩
        exact congrArg (fun z => Value.tuple #[_, _, .bool z]) (decide_eq_true hgd.symm)
      try simp only [sH] at h62
      refine r_no rfl rfl ?_
      refine r_no rfl rfl ?_
      refine r_no rfl rfl ?_
      refine r_no1 rfl rfl ?_
      refine r_do rfl (l_no rfl (l_nil ⟨fun _ _ => (by first | exact H | exact H.drop1 | exact H.drop1.drop1), ?_⟩))
      refine r_pint rfl rfl rfl ?_
      refine r_pslice rfl rfl rfl ?_
      refine r_do rfl (l_no rfl (l_nil ⟨fun _ _ => (by first | exact H | exact H.drop1 | exact H.drop1.drop1), ?_⟩))
      refine r_no rfl rfl ?_
      refine r_pickF (v := .bool _) rfl rfl rfl rfl ?_
      refine r_pbool rfl rfl rfl ?_
      refine r_nil ?_
      refine w_ret ?_
      refine fin3 rfl rfl rfl ?_
      have hf := evR_a (b := bs) (.inr (by omega))
      rw [hf]
      exact ⟨_, ta, tc, txs, rfl, fun h => (by cases h), H.drop1⟩
    try simp only [sH] at h58
    refine r_no rfl rfl ?_
    refine r_no rfl rfl ?_
    refine r_pickF (v := .bool _) rfl rfl rfl rfl ?_
    refine r_pbool rfl rfl rfl ?_
    refine r_no rfl rfl ?_
    refine r_no rfl rfl ?_
    refine r_no rfl rfl ?_
    refine r_no1 rfl rfl ?_
    refine r_do rfl (l_no rfl (l_nil ⟨fun _ _ => (by first | exact H | exact H.drop1 | exact H.drop1.drop1), ?_⟩))
    refine r_pint rfl rfl rfl ?_
    refine r_pslice rfl rfl rfl ?_
    refine r_do rfl (l_no rfl (l_nil ⟨fun _ _ => (by first | exact H | exact H.drop1 | exact H.drop1.drop1), ?_⟩))
    refine r_no rfl rfl ?_
    refine r_pickF (v := .bool _) rfl rfl rfl rfl ?_
    refine r_pbool rfl rfl rfl ?_
    refine r_nil ?_
    refine w_ret ?_
    refine fin3 rfl rfl rfl ?_
    have hf := evR_a (b := bs) (.inl (by omega))
    rw [hf]
    exact ⟨_, ta, tc, txs, rfl, fun h => (by cases h), H.drop1⟩
  try simp only [sH] at h54
  refine r_no rfl rfl ?_
  refine r_no rfl rfl ?_
  refine r_pickF (v := .bool _) rfl rfl rfl rfl ?_
  refine r_pbool rfl rfl rfl ?_
  refine r_no rfl rfl ?_
  refine r_no rfl rfl ?_
  refine r_pickF (v := .bool _) rfl rfl rfl rfl ?_
  refine r_pbool rfl rfl rfl ?_
  refine r_no rfl rfl ?_
  refine r_no rfl rfl ?_
  refine r_no rfl rfl ?_
  refine r_no1 rfl rfl ?_
  refine r_do rfl (l_no rfl (l_nil ⟨fun _ _ => (by first | exact H | exact H.drop1 | exact H.drop1.drop1), ?_⟩))
  refine r_pint rfl rfl rfl ?_
  refine r_pslice rfl rfl rfl ?_
  refine r_do rfl (l_no rfl (l_nil ⟨fun _ _ => (by first | exact H | exact H.drop1 | exact H.drop1.drop1), ?_⟩))
  refine r_no rfl rfl ?_
  refine r_pickF (v := .bool _) rfl rfl rfl rfl ?_
  refine r_pbool rfl rfl rfl ?_
  refine r_nil ?_
  refine w_ret ?_
  refine fin3 rfl rfl rfl ?_
  have hf := (evR_end hie hgo).1 (by omega)
  rw [hf]
  exact ⟨_, ta, tc, txs, rfl, fun h => (by cases h), H.drop1⟩
end Go.Proofs.YtfpmnhmdphaceaaGreatDoor
