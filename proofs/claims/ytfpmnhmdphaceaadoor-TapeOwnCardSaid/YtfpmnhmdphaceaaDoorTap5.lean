/- Walks through the tape's functions. -/
import Derived.Test.YtfpmnhmdphaceaaDoorTap3
namespace Go.Proofs.YtfpmnhmdphaceaaDoor
open Go.EW
attribute [local irreducible] EW.W EW.L EW.fin block8 outB shaL
set_option linter.unusedVariables false
set_option linter.unusedSimpArgs false
theorem WIntZ_ok {W w : World} {F : List Seg} {b : Nat} {a : Option Addr} {cap : Nat} {bs : List UInt8} {rs : List Value} {T : TypeId} {x : Int} (hx : 0 ≤ x ∧ x ≤ 9223372036854775807) (hb : bs.length ≤ 140737488355300) (H : St W w (writerX rs T b a cap bs F)) :
    Ok Tryd.prog 43 [.pointer (some ⟨b, 0, none⟩), I x].toArray w (fun r w' => r = .tuple #[] ∧ ∃ a' c', St W w' (writerX rs T b a' c' (bs ++ formL x.toNat) F)) := by
  have h := WInt_ok (n := x.toNat) (by omega) hb H
  rw [Int.toNat_of_nonneg hx.1] at h
  exact h
theorem and_64 {e : Operand → Value} {T T' : TypeId} {x y : Operand} {k : Int} (hx : e x = I (usesN k : Int)) (hy : e y = I 64) : pureV e (.binOp .and T x y T') = some (I (if bitN (usesN k) 6 then 64 else 0)) := by
  rw [← (uses_and k).1]; simp only [pureV, hx, hy]; rfl
theorem and_128 {e : Operand → Value} {T T' : TypeId} {x y : Operand} {k : Int} (hx : e x = I (usesN k : Int)) (hy : e y = I 128) : pureV e (.binOp .and T x y T') = some (I (if bitN (usesN k) 7 then 128 else 0)) := by
  rw [← (uses_and k).2.1]; simp only [pureV, hx, hy]; rfl
theorem and_256 {e : Operand → Value} {T T' : TypeId} {x y : Operand} {k : Int} (hx : e x = I (usesN k : Int)) (hy : e y = I 256) : pureV e (.binOp .and T x y T') = some (I (if bitN (usesN k) 8 then 256 else 0)) := by
  rw [← (uses_and k).2.2]; simp only [pureV, hx, hy]; rfl
theorem ifb_ne {b : Bool} {n : Int} (h : ¬ (if b = true then n else 0) = 0) : b = true := by
  cases b with
  | true => rfl
  | false => exact absurd rfl h
theorem ifb_eq {b : Bool} {n : Int} (hn : n ≠ 0) (h : (if b = true then n else 0) = 0) : b = false := by
  cases b with
  | true => exact absurd h hn
  | false => rfl
theorem negN_mono {e : Evt} {u i : Nat} (h : negN e u i = true) : ∀ j, i ≤ j → negN e u j = true
  | 0, hj => by
    obtain rfl : i = 0 := by omega
    exact h
  | j + 1, hj => by
    rcases Nat.lt_or_ge j i with hl | hl
    · obtain rfl : i = j + 1 := by omega
      exact h
    rw [negN, negN_mono h j hl]; rfl
theorem negN_hit {e : Evt} {u i : Nat} (hi : i < 6) (hb : bitN u i = true) (hn : e.num i < 0) : negN e u 6 = true := by
  refine negN_mono (i := i + 1) ?_ 6 (by omega)
  rw [negN, hb, decide_eq_true hn]; simp
theorem negN_step {e : Evt} {u i : Nat} (h : negN e u i = false) (hb : bitN u i = true → ¬ e.num i < 0) : negN e u (i + 1) = false := by
  rw [negN, h, Bool.false_or]
  cases hc : bitN u i with
  | false => rfl
  | true => rw [decide_eq_false (hb hc)]; rfl
theorem negN_no {e : Evt} {u i : Nat} (h : negN e u 6 = false) (hi : i < 6) (hb : bitN u i = true) : 0 ≤ e.num i := by
  by_cases hn : e.num i < 0
  · rw [negN_hit hi hb hn] at h; cases h
  omega
theorem pgo_len (e : Evt) (u : Nat) : ∀ i, (pgo e u i).length ≤ 9 * (i + 1)
  | 0 => by rw [pgo]; have := formL_len e.k.toNat; omega
  | i + 1 => by
    have h := pgo_len e u i
    rw [pgo, List.length_append]
    split
    · have := formL_len (e.num i).toNat; omega
    rw [List.length_nil]; omega
theorem bit_not {u i : Nat} (h : ¬ (((u / 2 ^ i % 2 : Nat) : Int) = 1)) : bitN u i = false := by
  cases hb : bitN u i with
  | false => rfl
  | true => exact absurd (bit_one.2 hb) h
theorem uses_pos {k : Int} (h : ¬ usesN k = 0) : 1 ≤ k ∧ k < 13 := by
  by_cases hk : k < 1 ∨ 13 ≤ k
  · rw [uses_zero hk] at h; exact absurd rfl h
  omega
theorem pdr_len (e : Evt) (u : Nat) : (pdr e u).length ≤ 18 := by
  unfold pdr
  split
  · rw [List.length_append]; have := formL_len e.hi; have := formL_len e.lo; omega
  exact Nat.zero_le _
theorem pop_len (e : Evt) (u : Nat) (h : bitN u 7 = true → e.ov.size ≤ 64) : (pop e u).length ≤ 91 := by
  unfold pop
  split
  · rename_i hb
    have h1 := h hb
    have h2 : e.ov.data.toList.length = e.ov.size := by rw [Array.length_toList]; rfl
    simp only [List.length_append, h2]
    have := formL_len e.ok.toNat; have := formL_len e.os.toNat; have := formL_len e.ov.size; omega
  exact Nat.zero_le _
theorem pby_len (e : Evt) (u : Nat) (h : bitN u 8 = true → e.bs.length ≤ 16384) : (pby e u).length ≤ 16393 := by
  unfold pby
  split
  · rename_i hb
    have h1 := h hb
    rw [List.length_append]; have := formL_len e.bs.length; omega
  exact Nat.zero_le _
set_option maxRecDepth 8000 in
set_option maxHeartbeats 1000000 in
theorem PutEvent_ok {W w : World} {F : List Seg} (H : St W w F) (e : Evt) (he : EvOk e) {a : Option Addr} {c : Nat} (hr : RdIn W F a (e.bs.map B)) :
    Ok Tryd.prog 11 [.agg (e.cells a c).toArray].toArray w (fun r w' => ∃ a' c', r = .tuple #[.slice a' (putEv e).1.length c', .int .i64 ((putEv e).2 : Int)] ∧ St W w' (row 5 1 a' (putEv e).1.length c' ((putEv e).1.map B) :: F)) := by
  have hu := uses_lt e.k
  have hpl := pgo_len e (usesN e.k) 6
  have hdl := pdr_len e (usesN e.k)
  have hf1 := formL_len e.hi
  have hf2 := formL_len e.ok.toNat
  have hf3 := formL_len e.os.toNat
  refine enter (n := 122) (rs := #[.tmp 2, .tmp 3]) Tryd.func11 rfl rfl rfl rfl ?_
  refine w_seq ?_
  refine w_region ?_
  refine b_box (cs := e.cells a c) rfl rfl rfl H (fun b1 w H => ?_)
  refine l_pslice rfl rfl ?_
  refine l_pint rfl rfl ?_
  refine l_nil ?_
  refine w_seq ?_
  refine w_region ?_
  refine l_v rfl (q_fieldAddr rfl fo30_0 rfl) ?_
  refine l_v rfl (q_load1 rfl c1_22 rfl (by first | exact H.cell 0 rfl rfl | exact H.cell 1 rfl rfl | exact H.cell 2 rfl rfl)) ?_
  refine b_call rfl cb_41 rfl (uses_ok H e.k) (fun v w hv => ?_)
  obtain ⟨rfl, H⟩ := hv
  refine l_pint rfl rfl ?_
  refine l_nil ?_
  refine w_seq ?_
  refine w_seq ?_
  refine w_region ?_
  refine l_pint rfl rfl ?_
  refine l_pbool rfl rfl ?_
  refine l_nil ?_
  refine w_cond rfl (fun c1 => ?_) (fun c1 => ?_)
  · try simp only [sH] at c1
    refine w_seq ?_
    refine w_region ?_
    refine l_pslice rfl rfl ?_
    refine l_pint rfl rfl ?_
    refine l_nil ?_
    refine w_ret ?_
    refine fin2 rfl rfl ?_
    have hp : putEv e = ([], 150) := by unfold putEv; rw [if_pos (by omega)]
    rw [hp]; exact ⟨none, 0, rfl, St.newRow H.drop1⟩
  try simp only [sH] at c1
  have hu0 : ¬ usesN e.k = 0 := by omega
  have hk1 := uses_pos hu0
  refine w_skip ?_
  refine w_seq ?_
  refine w_seq ?_
  refine w_region ?_
  refine b_call rfl cb_42 rfl (ints_ok H b1) (fun v w hv => ?_)
  obtain ⟨rfl, H⟩ := hv
  refine l_pint rfl rfl ?_
  refine l_nil ?_
  refine w_block ?_
  refine w_loopG (G := Nat) [2, 3, 5, 6, 16, 17, 18, 19, 20, 21, 22, 23, 24, 25, 26, 27, 28, 29, 30, 31] (fun i => [(16, .int .i64 ((i : Nat) : Int))]) (fun m i w => m + i = 6 ∧ negN e (usesN e.k) i = false ∧ St W w (blk b1 (e.cells a c) 30 :: F)) (fun _ => rfl) ?_ ?_
  · exact ⟨6, 0, ⟨rfl, trivial⟩, rfl, rfl, H⟩
  rintro m i ρ1 w ⟨hmi, hng, H⟩
  refine w_seq ?_
  refine w_region ?_
  refine l_pbool rfl rfl ?_
  refine l_nil ?_
  refine w_seq ?_
  refine w_cond rfl (fun c2 => ?_) (fun c2 => ?_)
  · try simp only [sH] at c2
    have hi6 : i < 6 := by omega
    refine w_skip ?_
    refine w_seq ?_
    refine w_block ?_
    refine w_seq ?_
    refine w_region ?_
    refine l_pint rfl rfl ?_
    refine l_v rfl (q_indexAgg1 (v := .pointer (some ⟨b1, i + 1, none⟩)) rfl ar_111 c1_110 rfl rfl ⟨by omega, by omega⟩ (ptrs_at b1 (i := i) hi6)) ?_
    refine l_pint rfl rfl ?_
    refine l_pptr rfl rfl ?_
    refine l_nil ?_
    refine w_seq ?_
    refine w_region ?_
    refine l_pint rfl rfl ?_
    refine l_pint rfl rfl ?_
    refine l_v rfl (q_pure (i64_shr rfl rfl (by omega))) ?_
    refine l_v rfl (q_pure (i64_bit rfl rfl (Nat.lt_of_le_of_lt (Nat.div_le_self _ _) (by omega)))) ?_
    refine l_pbool rfl rfl ?_
    refine l_pbool rfl rfl ?_
    refine l_split 25 rfl (fun h25 => ?_) (fun h25 => ?_)
    · try simp only [sH] at h25
      have hb1 := bit_one.1 h25
      refine l_pptr rfl rfl ?_
      refine l_pptr rfl rfl ?_
      refine l_v rfl (q_load1 rfl c1_3 rfl (H.cell 0 rfl (evt_cell e a c hi6))) ?_
      refine l_pbool rfl rfl ?_
      refine l_pickT (v := .bool _) rfl rfl rfl ?_
      refine l_nil ?_
      refine w_cond rfl (fun c3 => ?_) (fun c3 => ?_)
      · try simp only [sH] at c3
        refine w_seq ?_
        refine w_region ?_
        refine l_pslice rfl rfl ?_
        refine l_pint rfl rfl ?_
        refine l_nil ?_
        refine w_ret ?_
        refine fin2 rfl rfl ?_
        have hp : putEv e = ([], 150) := by unfold putEv; rw [if_neg hu0, if_pos (negN_hit hi6 hb1 (by omega))]
        rw [hp]; exact ⟨none, 0, rfl, St.newRow H.drop1⟩
      try simp only [sH] at c3
      refine w_skip ?_
      refine w_region ?_
      first | refine l_v rfl (q_add rfl rfl rfl (by simp only [inK]; omega)) ?_ | refine l_pint rfl rfl ?_
      refine l_pint rfl rfl ?_
      refine l_nil ?_
      refine ⟨by repeat' first | exact aM | exact aR | refine aI rfl ?_ | refine aU rfl ?_ | refine aL rfl ?_, ?_⟩
      exact ⟨m - 1, i + 1, by omega, ⟨by exact congrArg (Value.int IntKind.i64) (Int.natCast_succ i).symm, trivial⟩, by omega, negN_step hng (fun hb => by first | omega | (rw [hb0] at hb; cases hb)), H⟩
    try simp only [sH] at h25
    have hb0 := bit_not h25
    refine l_no rfl ?_
    refine l_no rfl ?_
    refine l_no rfl ?_
    refine l_no rfl ?_
    refine l_pickF (v := .bool _) rfl rfl rfl ?_
    refine l_nil ?_
    refine w_cond_f rfl ?_
    refine w_skip ?_
    refine w_region ?_
    first | refine l_v rfl (q_add rfl rfl rfl (by simp only [inK]; omega)) ?_ | refine l_pint rfl rfl ?_
    refine l_pint rfl rfl ?_
    refine l_nil ?_
    refine ⟨by repeat' first | exact aM | exact aR | refine aI rfl ?_ | refine aU rfl ?_ | refine aL rfl ?_, ?_⟩
    exact ⟨m - 1, i + 1, by omega, ⟨by exact congrArg (Value.int IntKind.i64) (Int.natCast_succ i).symm, trivial⟩, by omega, negN_step hng (fun hb => by first | omega | (rw [hb0] at hb; cases hb)), H⟩
  try simp only [sH] at c2
  have hng6 : negN e (usesN e.k) 6 = false := by
    obtain rfl : i = 6 := by omega
    exact hng
  refine w_exit ?_
  refine w_cutG (G := Unit) [2, 3, 32, 33, 34, 35, 36, 37, 38, 39, 40, 41, 42, 43, 44, 45, 46] (fun ⟨⟩ => []) (fun ⟨⟩ w => (bitN (usesN e.k) 7 = true → 0 ≤ e.ok ∧ 0 ≤ e.os) ∧ St W w (blk b1 (e.cells a c) 30 :: F)) (fun _ => rfl) ?_ ?_
  · refine w_seq ?_
    refine w_region ?_
    refine l_pint rfl rfl ?_
    refine l_v rfl (q_pure (and_128 rfl rfl)) ?_
    refine l_pbool rfl rfl ?_
    refine l_pbool rfl rfl ?_
    refine l_split 35 rfl (fun h35 => ?_) (fun h35 => ?_)
    · try simp only [sH] at h35
      have hb7 := ifb_ne h35
      refine l_v rfl (q_fieldAddr rfl fo30_8 rfl) ?_
      refine l_v rfl (q_fieldAddr rfl fo27_0 rfl) ?_
      refine l_v rfl (q_load1 rfl c1_3 rfl (by first | exact H.cell 0 rfl rfl | exact H.cell 1 rfl rfl | exact H.cell 2 rfl rfl)) ?_
      refine l_pbool rfl rfl ?_
      refine l_pbool rfl rfl ?_
      refine l_split 40 rfl (fun h40 => ?_) (fun h40 => ?_)
      · try simp only [sH] at h40
        refine l_no rfl ?_
        refine l_no rfl ?_
        refine l_no rfl ?_
        refine l_no rfl ?_
        refine l_pickT (v := .bool _) rfl rfl rfl ?_
        refine l_pickT (v := .bool _) rfl rfl rfl ?_
        refine l_nil ?_
        refine w_cond_t rfl ?_
        refine w_seq ?_
        refine w_region ?_
        refine l_pslice rfl rfl ?_
        refine l_pint rfl rfl ?_
        refine l_nil ?_
        refine w_ret ?_
        refine fin2 rfl rfl ?_
        have hp : putEv e = ([], 150) := by unfold putEv; rw [if_neg hu0, if_neg (by rw [hng6]; decide), if_pos ⟨hb7, .inl (by omega)⟩]
        rw [hp]; exact ⟨none, 0, rfl, St.newRow H.drop1⟩
      try simp only [sH] at h40
      refine l_v rfl (q_fieldAddr rfl fo30_8 rfl) ?_
      refine l_v rfl (q_fieldAddr rfl fo27_1 rfl) ?_
      refine l_v rfl (q_load1 rfl c1_3 rfl (by first | exact H.cell 0 rfl rfl | exact H.cell 1 rfl rfl | exact H.cell 2 rfl rfl)) ?_
      refine l_pbool rfl rfl ?_
      refine l_pickF (v := .bool _) rfl rfl rfl ?_
      refine l_pickT (v := .bool _) rfl rfl rfl ?_
      refine l_nil ?_
      refine w_cond rfl (fun c4 => ?_) (fun c4 => ?_)
      · try simp only [sH] at c4
        refine w_seq ?_
        refine w_region ?_
        refine l_pslice rfl rfl ?_
        refine l_pint rfl rfl ?_
        refine l_nil ?_
        refine w_ret ?_
        refine fin2 rfl rfl ?_
        have hp : putEv e = ([], 150) := by unfold putEv; rw [if_neg hu0, if_neg (by rw [hng6]; decide), if_pos ⟨hb7, .inr (by omega)⟩]
        rw [hp]; exact ⟨none, 0, rfl, St.newRow H.drop1⟩
      try simp only [sH] at c4
      refine w_skip ?_
      refine ⟨by repeat' first | exact aM | exact aR | refine aI rfl ?_ | refine aU rfl ?_ | refine aL rfl ?_, ?_⟩
      exact ⟨⟨⟩, trivial, (fun hb => by first | omega | (rw [hb7] at hb; cases hb)), H⟩
    try simp only [sH] at h35
    have hb7 := ifb_eq (by decide) h35
    refine l_no rfl ?_
    refine l_no rfl ?_
    refine l_no rfl ?_
    refine l_no rfl ?_
    refine l_no rfl ?_
    refine l_no rfl ?_
    refine l_no rfl ?_
    refine l_no rfl ?_
    refine l_no rfl ?_
    refine l_no rfl ?_
    refine l_pickF (v := .bool _) rfl rfl rfl ?_
    refine l_nil ?_
    refine w_cond_f rfl ?_
    refine w_skip ?_
    refine ⟨by repeat' first | exact aM | exact aR | refine aI rfl ?_ | refine aU rfl ?_ | refine aL rfl ?_, ?_⟩
    exact ⟨⟨⟩, trivial, (fun hb => by first | omega | (rw [hb7] at hb; cases hb)), H⟩
  rintro ⟨⟩ ρ1 w ⟨hopn, H⟩
  refine w_cutG (G := Unit) [2, 3, 47, 48, 49, 50, 51, 52, 53, 54, 55, 56, 57, 58, 59, 60, 61, 62, 63, 64, 65, 66, 67] (fun ⟨⟩ => []) (fun ⟨⟩ w => (bitN (usesN e.k) 7 = true → e.ov.size ≤ 64) ∧ (bitN (usesN e.k) 8 = true → e.bs.length ≤ 16384) ∧ St W w (blk b1 (e.cells a c) 30 :: F)) (fun _ => rfl) ?_ ?_
  · refine w_seq ?_
    refine w_region ?_
    refine l_pint rfl rfl ?_
    refine l_v rfl (q_pure (and_128 rfl rfl)) ?_
    refine l_pbool rfl rfl ?_
    refine l_pbool rfl rfl ?_
    refine l_split 50 rfl (fun h50 => ?_) (fun h50 => ?_)
    · try simp only [sH] at h50
      have hb7 := ifb_ne h50
      refine l_v rfl (q_fieldAddr rfl fo30_8 rfl) ?_
      refine l_v rfl (q_fieldAddr rfl fo27_2 rfl) ?_
      refine l_v rfl (q_load1 rfl c1_9 rfl (by first | exact H.cell 0 rfl rfl | exact H.cell 1 rfl rfl | exact H.cell 2 rfl rfl)) ?_
      refine l_v rfl (q_lenStr rfl st_9 rfl) ?_
      refine l_pbool rfl rfl ?_
      refine l_pickT (v := .bool _) rfl rfl rfl ?_
      refine l_pbool rfl rfl ?_
      refine l_split 57 rfl (fun h57 => ?_) (fun h57 => ?_)
      · try simp only [sH] at h57
        refine l_no rfl ?_
        refine l_no rfl ?_
        refine l_no rfl ?_
        refine l_no rfl ?_
        refine l_no rfl ?_
        refine l_no rfl ?_
        refine l_no rfl ?_
        refine l_no rfl ?_
        refine l_no rfl ?_
        refine l_pickT (v := .bool _) rfl rfl rfl ?_
        refine l_nil ?_
        refine w_cond_t rfl ?_
        refine w_seq ?_
        refine w_region ?_
        refine l_pslice rfl rfl ?_
        refine l_pint rfl rfl ?_
        refine l_nil ?_
        refine w_ret ?_
        refine fin2 rfl rfl ?_
        have hp : putEv e = ([], 11) := by unfold putEv; rw [if_neg hu0, if_neg (by rw [hng6]; decide), if_neg (fun h => by have := hopn h.1; omega), if_pos (.inl ⟨hb7, by omega⟩)]
        rw [hp]; exact ⟨none, 0, rfl, St.newRow H.drop1⟩
      try simp only [sH] at h57
      refine l_pint rfl rfl ?_
      refine l_v rfl (q_pure (and_256 rfl rfl)) ?_
      refine l_pbool rfl rfl ?_
      refine l_pbool rfl rfl ?_
      refine l_split 61 rfl (fun h61 => ?_) (fun h61 => ?_)
      · try simp only [sH] at h61
        have hb8 := ifb_ne h61
        refine l_v rfl (q_fieldAddr rfl fo30_9 rfl) ?_
        refine l_v rfl (q_load1 rfl c1_28 rfl (by first | exact H.cell 0 rfl rfl | exact H.cell 1 rfl rfl | exact H.cell 2 rfl rfl)) ?_
        refine l_v rfl (q_lenSlice rfl el_28 rfl) ?_
        refine l_pbool rfl rfl ?_
        refine l_pickT (v := .bool _) rfl rfl rfl ?_
        refine l_pickF (v := .bool _) rfl rfl rfl ?_
        refine l_nil ?_
        refine w_cond rfl (fun c5 => ?_) (fun c5 => ?_)
        · try simp only [sH] at c5
          refine w_seq ?_
          refine w_region ?_
          refine l_pslice rfl rfl ?_
          refine l_pint rfl rfl ?_
          refine l_nil ?_
          refine w_ret ?_
          refine fin2 rfl rfl ?_
          have hp : putEv e = ([], 11) := by unfold putEv; rw [if_neg hu0, if_neg (by rw [hng6]; decide), if_neg (fun h => by have := hopn h.1; omega), if_pos (.inr ⟨hb8, by omega⟩)]
          rw [hp]; exact ⟨none, 0, rfl, St.newRow H.drop1⟩
        try simp only [sH] at c5
        refine w_skip ?_
        refine ⟨by repeat' first | exact aM | exact aR | refine aI rfl ?_ | refine aU rfl ?_ | refine aL rfl ?_, ?_⟩
        exact ⟨⟨⟩, trivial, (fun hb => by first | omega | (rw [hb7] at hb; cases hb)), (fun hb => by first | omega | (rw [hb8] at hb; cases hb)), H⟩
      try simp only [sH] at h61
      have hb8 := ifb_eq (by decide) h61
      refine l_no rfl ?_
      refine l_no rfl ?_
      refine l_no rfl ?_
      refine l_no rfl ?_
      refine l_pickF (v := .bool _) rfl rfl rfl ?_
      refine l_pickF (v := .bool _) rfl rfl rfl ?_
      refine l_nil ?_
      refine w_cond_f rfl ?_
      refine w_skip ?_
      refine ⟨by repeat' first | exact aM | exact aR | refine aI rfl ?_ | refine aU rfl ?_ | refine aL rfl ?_, ?_⟩
      exact ⟨⟨⟩, trivial, (fun hb => by first | omega | (rw [hb7] at hb; cases hb)), (fun hb => by first | omega | (rw [hb8] at hb; cases hb)), H⟩
    try simp only [sH] at h50
    have hb7 := ifb_eq (by decide) h50
    refine l_no rfl ?_
    refine l_no rfl ?_
    refine l_no rfl ?_
    refine l_no rfl ?_
    refine l_no rfl ?_
    refine l_pickF (v := .bool _) rfl rfl rfl ?_
    refine l_pbool rfl rfl ?_
    refine l_pint rfl rfl ?_
    refine l_v rfl (q_pure (and_256 rfl rfl)) ?_
    refine l_pbool rfl rfl ?_
    refine l_pbool rfl rfl ?_
    refine l_split 61 rfl (fun h61 => ?_) (fun h61 => ?_)
    · try simp only [sH] at h61
      have hb8 := ifb_ne h61
      refine l_v rfl (q_fieldAddr rfl fo30_9 rfl) ?_
      refine l_v rfl (q_load1 rfl c1_28 rfl (by first | exact H.cell 0 rfl rfl | exact H.cell 1 rfl rfl | exact H.cell 2 rfl rfl)) ?_
      refine l_v rfl (q_lenSlice rfl el_28 rfl) ?_
      refine l_pbool rfl rfl ?_
      refine l_pickT (v := .bool _) rfl rfl rfl ?_
      refine l_pickF (v := .bool _) rfl rfl rfl ?_
      refine l_nil ?_
      refine w_cond rfl (fun c6 => ?_) (fun c6 => ?_)
      · try simp only [sH] at c6
        refine w_seq ?_
        refine w_region ?_
        refine l_pslice rfl rfl ?_
        refine l_pint rfl rfl ?_
        refine l_nil ?_
        refine w_ret ?_
        refine fin2 rfl rfl ?_
        have hp : putEv e = ([], 11) := by unfold putEv; rw [if_neg hu0, if_neg (by rw [hng6]; decide), if_neg (fun h => by have := hopn h.1; omega), if_pos (.inr ⟨hb8, by omega⟩)]
        rw [hp]; exact ⟨none, 0, rfl, St.newRow H.drop1⟩
      try simp only [sH] at c6
      refine w_skip ?_
      refine ⟨by repeat' first | exact aM | exact aR | refine aI rfl ?_ | refine aU rfl ?_ | refine aL rfl ?_, ?_⟩
      exact ⟨⟨⟩, trivial, (fun hb => by first | omega | (rw [hb7] at hb; cases hb)), (fun hb => by first | omega | (rw [hb8] at hb; cases hb)), H⟩
    try simp only [sH] at h61
    have hb8 := ifb_eq (by decide) h61
    refine l_no rfl ?_
    refine l_no rfl ?_
    refine l_no rfl ?_
    refine l_no rfl ?_
    refine l_pickF (v := .bool _) rfl rfl rfl ?_
    refine l_pickF (v := .bool _) rfl rfl rfl ?_
    refine l_nil ?_
    refine w_cond_f rfl ?_
    refine w_skip ?_
    refine ⟨by repeat' first | exact aM | exact aR | refine aI rfl ?_ | refine aU rfl ?_ | refine aL rfl ?_, ?_⟩
    exact ⟨⟨⟩, trivial, (fun hb => by first | omega | (rw [hb7] at hb; cases hb)), (fun hb => by first | omega | (rw [hb8] at hb; cases hb)), H⟩
  rintro ⟨⟩ ρ1 w ⟨hovn, hbln, H⟩
  refine w_seq ?_
  refine w_region ?_
  refine b_alloc rfl ze_82 rfl H (fun b7 w H => ?_)
  have H : St W w (writerL b7 none 0 [] (blk b1 (e.cells a c) 30 :: F)) := (St.newRow (T := 5) (sz := 1) H).swap01
  refine l_nil ?_
  refine w_seq ?_
  refine w_region ?_
  refine l_v rfl (q_fieldAddr rfl fo30_0 rfl) ?_
  refine l_v rfl (q_load1 rfl c1_22 rfl (by first | exact H.cell 0 rfl rfl | exact H.cell 1 rfl rfl | exact H.cell 2 rfl rfl)) ?_
  refine b_call rfl cb_43 rfl (WIntZ_ok ⟨by omega, by omega⟩ (by simp) H) (fun v w hv => ?_)
  obtain ⟨rfl, a', c', H⟩ := hv
  refine l_nil ?_
  refine w_seq ?_
  refine w_seq ?_
  refine w_region ?_
  refine b_call rfl cb_42 rfl (ints_ok H b1) (fun v w hv => ?_)
  obtain ⟨rfl, H⟩ := hv
  refine l_pint rfl rfl ?_
  refine l_nil ?_
  refine w_block ?_
  refine w_loopG (G := Nat × Option Addr × Nat) [8, 9, 72, 73, 74, 75, 76, 77, 78, 79, 80, 81, 82, 83, 84, 85] (fun ⟨i, aw, cw⟩ => [(72, .int .i64 ((i : Nat) : Int))]) (fun m ⟨i, aw, cw⟩ w => m + i = 6 ∧ St W w (writerL b7 aw cw (pgo e (usesN e.k) i) (blk b1 (e.cells a c) 30 :: F))) (fun _ => rfl) ?_ ?_
  · exact ⟨6, (0, a', c'), ⟨rfl, trivial⟩, rfl, H⟩
  rintro m ⟨i, aw, cw⟩ ρ1 w ⟨hmi, H⟩
  refine w_seq ?_
  refine w_region ?_
  refine l_pbool rfl rfl ?_
  refine l_nil ?_
  refine w_seq ?_
  refine w_cond rfl (fun c7 => ?_) (fun c7 => ?_)
  · try simp only [sH] at c7
    have hi6 : i < 6 := by omega
    have hpi := pgo_len e (usesN e.k) i
    refine w_skip ?_
    refine w_seq ?_
    refine w_block ?_
    refine w_seq ?_
    refine w_region ?_
    refine l_pint rfl rfl ?_
    refine l_v rfl (q_indexAgg1 (v := .pointer (some ⟨b1, i + 1, none⟩)) rfl ar_111 c1_110 rfl rfl ⟨by omega, by omega⟩ (ptrs_at b1 (i := i) hi6)) ?_
    refine l_pint rfl rfl ?_
    refine l_pptr rfl rfl ?_
    refine l_nil ?_
    refine w_seq ?_
    refine w_region ?_
    refine l_pint rfl rfl ?_
    refine l_pint rfl rfl ?_
    refine l_v rfl (q_pure (i64_shr rfl rfl (by omega))) ?_
    refine l_v rfl (q_pure (i64_bit rfl rfl (Nat.lt_of_le_of_lt (Nat.div_le_self _ _) (by omega)))) ?_
    refine l_pbool rfl rfl ?_
    refine l_nil ?_
    refine w_cond rfl (fun c8 => ?_) (fun c8 => ?_)
    · try simp only [sH] at c8
      have hb1 := bit_one.1 c8
      refine w_region ?_
      refine l_pptr rfl rfl ?_
      refine l_pptr rfl rfl ?_
      refine l_v rfl (q_load1 rfl c1_3 rfl (H.cell 2 rfl (evt_cell e a c hi6))) ?_
      refine b_call rfl cb_43 rfl (WIntZ_ok ⟨negN_no hng6 hi6 hb1, (he.num i).2⟩ (by omega) H) (fun v w hv => ?_)
      obtain ⟨rfl, a', c', H⟩ := hv
      refine l_nil ?_
      refine w_region ?_
      first | refine l_v rfl (q_add rfl rfl rfl (by simp only [inK]; omega)) ?_ | refine l_pint rfl rfl ?_
      refine l_pint rfl rfl ?_
      refine l_nil ?_
      refine ⟨by repeat' first | exact aM | exact aR | refine aI rfl ?_ | refine aU rfl ?_ | refine aL rfl ?_, ?_⟩
      first
        | exact ⟨m - 1, (i + 1, a', c'), by omega, ⟨by exact congrArg (Value.int IntKind.i64) (Int.natCast_succ i).symm, trivial⟩, by omega, by rw [pgo, if_pos hb1]; exact H⟩
        | exact ⟨m - 1, (i + 1, aw, cw), by omega, ⟨by exact congrArg (Value.int IntKind.i64) (Int.natCast_succ i).symm, trivial⟩, by omega, by rw [pgo, hb0, if_neg (by decide), List.append_nil]; exact H⟩
    try simp only [sH] at c8
    have hb0 := bit_not c8
    refine w_skip ?_
    refine w_region ?_
    first | refine l_v rfl (q_add rfl rfl rfl (by simp only [inK]; omega)) ?_ | refine l_pint rfl rfl ?_
    refine l_pint rfl rfl ?_
    refine l_nil ?_
    refine ⟨by repeat' first | exact aM | exact aR | refine aI rfl ?_ | refine aU rfl ?_ | refine aL rfl ?_, ?_⟩
    first
      | exact ⟨m - 1, (i + 1, a', c'), by omega, ⟨by exact congrArg (Value.int IntKind.i64) (Int.natCast_succ i).symm, trivial⟩, by omega, by rw [pgo, if_pos hb1]; exact H⟩
      | exact ⟨m - 1, (i + 1, aw, cw), by omega, ⟨by exact congrArg (Value.int IntKind.i64) (Int.natCast_succ i).symm, trivial⟩, by omega, by rw [pgo, hb0, if_neg (by decide), List.append_nil]; exact H⟩
  try simp only [sH] at c7
  obtain rfl : i = 6 := by omega
  refine w_exit ?_
  refine w_cutG (G := Option Addr × Nat) [86, 87, 88, 89, 90, 91, 92, 93, 94, 95, 96] (fun ⟨aw, cw⟩ => []) (fun ⟨aw, cw⟩ w => St W w (writerL b7 aw cw (pgo e (usesN e.k) 6 ++ pdr e (usesN e.k)) (blk b1 (e.cells a c) 30 :: F))) (fun _ => rfl) ?_ ?_
  · refine w_seq ?_
    refine w_region ?_
    refine l_pint rfl rfl ?_
    refine l_v rfl (q_pure (and_64 rfl rfl)) ?_
    refine l_pbool rfl rfl ?_
    refine l_nil ?_
    refine w_cond rfl (fun c9 => ?_) (fun c9 => ?_)
    · try simp only [sH] at c9
      have hb6 := ifb_ne c9
      refine w_seq ?_
      refine w_region ?_
      refine l_v rfl (q_fieldAddr rfl fo30_7 rfl) ?_
      refine l_v rfl (q_fieldAddr rfl fo25_0 rfl) ?_
      refine l_v rfl (q_load1 rfl c1_23 rfl (by first | exact H.cell 0 rfl rfl | exact H.cell 1 rfl rfl | exact H.cell 2 rfl rfl)) ?_
      refine b_call rfl cb_44 rfl (Number_ok he.hi.1 (by omega) H) (fun v w hv => ?_)
      obtain ⟨rfl, a', c', H⟩ := hv
      refine l_nil ?_
      refine w_region ?_
      refine l_v rfl (q_fieldAddr rfl fo30_7 rfl) ?_
      refine l_v rfl (q_fieldAddr rfl fo25_1 rfl) ?_
      refine l_v rfl (q_load1 rfl c1_23 rfl (by first | exact H.cell 0 rfl rfl | exact H.cell 1 rfl rfl | exact H.cell 2 rfl rfl)) ?_
      refine b_call rfl cb_44 rfl (Number_ok he.hi.2 (by rw [List.length_append]; omega) H) (fun v w hv => ?_)
      obtain ⟨rfl, a2, c2, H⟩ := hv
      refine l_nil ?_
      refine ⟨by repeat' first | exact aM | exact aR | refine aI rfl ?_ | refine aU rfl ?_ | refine aL rfl ?_, ?_⟩
      exact ⟨(a2, c2), trivial, by rw [pdr, if_pos hb6, ← List.append_assoc]; exact H⟩
    try simp only [sH] at c9
    have hb6 := ifb_eq (by decide) c9
    refine w_skip ?_
    refine ⟨by repeat' first | exact aM | exact aR | refine aI rfl ?_ | refine aU rfl ?_ | refine aL rfl ?_, ?_⟩
    exact ⟨(aw, cw), trivial, by rw [pdr, hb6, if_neg (by decide), List.append_nil]; exact H⟩
  rintro ⟨aw, cw⟩ ρ1 w H
  refine w_cutG (G := Option Addr × Nat) [97, 98, 99, 100, 101, 102, 103, 104, 105, 106, 107, 108, 109, 110, 111] (fun ⟨aw, cw⟩ => []) (fun ⟨aw, cw⟩ w => St W w (writerL b7 aw cw (pgo e (usesN e.k) 6 ++ pdr e (usesN e.k) ++ pop e (usesN e.k)) (blk b1 (e.cells a c) 30 :: F))) (fun _ => rfl) ?_ ?_
  · refine w_seq ?_
    refine w_region ?_
    refine l_pint rfl rfl ?_
    refine l_v rfl (q_pure (and_128 rfl rfl)) ?_
    refine l_pbool rfl rfl ?_
    refine l_nil ?_
    refine w_cond rfl (fun c10 => ?_) (fun c10 => ?_)
    · try simp only [sH] at c10
      have hb7 := ifb_ne c10
      have hop := hopn hb7
      have hov := hovn hb7
      refine w_seq ?_
      refine w_region ?_
      refine l_v rfl (q_fieldAddr rfl fo30_8 rfl) ?_
      refine l_v rfl (q_fieldAddr rfl fo27_0 rfl) ?_
      refine l_v rfl (q_load1 rfl c1_3 rfl (by first | exact H.cell 0 rfl rfl | exact H.cell 1 rfl rfl | exact H.cell 2 rfl rfl)) ?_
      refine b_call rfl cb_43 rfl (WIntZ_ok ⟨hop.1, he.op.1⟩ (by simp only [List.length_append]; omega) H) (fun v w hv => ?_)
      obtain ⟨rfl, a', c', H⟩ := hv
      refine l_nil ?_
      refine w_seq ?_
      refine w_region ?_
      refine l_v rfl (q_fieldAddr rfl fo30_8 rfl) ?_
      refine l_v rfl (q_fieldAddr rfl fo27_1 rfl) ?_
      refine l_v rfl (q_load1 rfl c1_3 rfl (by first | exact H.cell 0 rfl rfl | exact H.cell 1 rfl rfl | exact H.cell 2 rfl rfl)) ?_
      refine b_call rfl cb_43 rfl (WIntZ_ok ⟨hop.2, he.op.2⟩ (by simp only [List.length_append]; omega) H) (fun v w hv => ?_)
      obtain ⟨rfl, a2, c2, H⟩ := hv
      refine l_nil ?_
      refine w_region ?_
      refine l_v rfl (q_fieldAddr rfl fo30_8 rfl) ?_
      refine l_v rfl (q_fieldAddr rfl fo27_2 rfl) ?_
      refine l_v rfl (q_load1 rfl c1_9 rfl (by first | exact H.cell 0 rfl rfl | exact H.cell 1 rfl rfl | exact H.cell 2 rfl rfl)) ?_
      refine b_call rfl cb_45 rfl (WText_ok (mo := 64) hov (by decide) (by simp only [List.length_append]; omega) H) (fun v w hv => ?_)
      obtain ⟨rfl, a3, c3, H⟩ := hv
      refine l_nil ?_
      refine ⟨by repeat' first | exact aM | exact aR | refine aI rfl ?_ | refine aU rfl ?_ | refine aL rfl ?_, ?_⟩
      refine ⟨(a3, c3), trivial, ?_⟩
      rw [pop, if_pos hb7]
      simp only [List.append_assoc] at H ⊢
      exact H
    try simp only [sH] at c10
    have hb7 := ifb_eq (by decide) c10
    refine w_skip ?_
    refine ⟨by repeat' first | exact aM | exact aR | refine aI rfl ?_ | refine aU rfl ?_ | refine aL rfl ?_, ?_⟩
    exact ⟨(aw, cw), trivial, by rw [pop, hb7, if_neg (by decide), List.append_nil]; exact H⟩
  rintro ⟨aw, cw⟩ ρ1 w H
  refine w_cutG (G := Option Addr × Nat) [112, 113, 114, 115, 116, 117, 118] (fun ⟨aw, cw⟩ => []) (fun ⟨aw, cw⟩ w => St W w (writerL b7 aw cw (pgo e (usesN e.k) 6 ++ pdr e (usesN e.k) ++ pop e (usesN e.k) ++ pby e (usesN e.k)) (blk b1 (e.cells a c) 30 :: F))) (fun _ => rfl) ?_ ?_
  · refine w_seq ?_
    refine w_region ?_
    refine l_pint rfl rfl ?_
    refine l_v rfl (q_pure (and_256 rfl rfl)) ?_
    refine l_pbool rfl rfl ?_
    refine l_nil ?_
    refine w_cond rfl (fun c11 => ?_) (fun c11 => ?_)
    · try simp only [sH] at c11
      have hb8 := ifb_ne c11
      have hbl := hbln hb8
      have hol := pop_len e (usesN e.k) hovn
      refine w_region ?_
      refine l_v rfl (q_fieldAddr rfl fo30_9 rfl) ?_
      refine l_v rfl (q_load1 rfl c1_28 rfl (by first | exact H.cell 0 rfl rfl | exact H.cell 1 rfl rfl | exact H.cell 2 rfl rfl)) ?_
      refine l_v rfl (q_bytesStr (bs := e.bs) rfl by_28 st_9 rfl (hr.use H 3 rfl) rfl) ?_
      refine b_call rfl cb_45 rfl (WText_ok (s := ⟨e.bs.toArray⟩) (mo := 16384) hbl (by decide) (by simp only [List.length_append]; omega) H) (fun v w hv => ?_)
      obtain ⟨rfl, a', c', H⟩ := hv
      refine l_nil ?_
      refine ⟨by repeat' first | exact aM | exact aR | refine aI rfl ?_ | refine aU rfl ?_ | refine aL rfl ?_, ?_⟩
      refine ⟨(a', c'), trivial, ?_⟩
      rw [pby, if_pos hb8, ← List.append_assoc]
      exact H
    try simp only [sH] at c11
    have hb8 := ifb_eq (by decide) c11
    refine w_skip ?_
    refine ⟨by repeat' first | exact aM | exact aR | refine aI rfl ?_ | refine aU rfl ?_ | refine aL rfl ?_, ?_⟩
    exact ⟨(aw, cw), trivial, by rw [pby, hb8, if_neg (by decide), List.append_nil]; exact H⟩
  rintro ⟨aw, cw⟩ ρ1 w H
  refine w_seq ?_
  refine w_region ?_
  refine b_call rfl cb_46 rfl (Bytes_ok (by have h1 := pop_len e (usesN e.k) hovn; have h2 := pby_len e (usesN e.k) hbln; simp only [List.length_append]; omega) H) (fun v w hv => ?_)
  obtain ⟨a', c', rfl, H⟩ := hv
  refine l_pslice rfl rfl ?_
  refine l_pint rfl rfl ?_
  refine l_pslice rfl rfl ?_
  refine l_pint rfl rfl ?_
  refine l_nil ?_
  refine w_ret ?_
  refine fin2 rfl rfl ?_
  have hp : putEv e = (pgo e (usesN e.k) 6 ++ pdr e (usesN e.k) ++ pop e (usesN e.k) ++ pby e (usesN e.k), 0) := by unfold putEv; rw [if_neg hu0, if_neg (by rw [hng6]; decide), if_neg (fun h => by have := hopn h.1; omega), if_neg (fun h => h.elim (fun h => by have := hovn h.1; omega) (fun h => by have := hbln h.1; omega))]
  rw [hp]; exact ⟨a', c', rfl, ((H.erase 1).erase 1).erase 1⟩
end Go.Proofs.YtfpmnhmdphaceaaDoor
