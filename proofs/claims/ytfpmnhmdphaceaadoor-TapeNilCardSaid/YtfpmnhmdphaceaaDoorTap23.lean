/- Walks through the tape's functions. -/
import Derived.Test.YtfpmnhmdphaceaaDoorTap22
import Derived.Test.YtfpmnhmdphaceaaDoorTap6
namespace Go.Proofs.YtfpmnhmdphaceaaDoor
open Go.EW
attribute [local irreducible] EW.W EW.L EW.fin block8 outB shaL
set_option linter.unusedVariables false
set_option linter.unusedSimpArgs false
attribute [local irreducible] crcN crcB crcL sealL openR sealR

/-- the body of the frame at a place, how long the frame is; or the error -/
def bodyR (b : List UInt8) (p : Nat) : List UInt8 × Nat × Nat :=
  if b.length - p < 12 then ([], 0, 222) else if (b.drop p).take 4 ≠ magicL then ([], 0, 220) else if 32756 < numB ((b.drop (p + 4)).take 4) then ([], 0, 220)
  else if b.length - p < numB ((b.drop (p + 4)).take 4) + 12 then ([], 0, 222) else if (openR ((b.drop p).take (numB ((b.drop (p + 4)).take 4) + 12))).2 ≠ 0 then ([], 0, 220)
  else ((openR ((b.drop p).take (numB ((b.drop (p + 4)).take 4) + 12))).1, numB ((b.drop (p + 4)).take 4) + 12, 0)
/-- so many numbers, one behind the other -/
def rInts (b : List UInt8) (s : Rs) : Nat → List Nat × Rs
  | 0 => ([], s)
  | i + 1 => ((rInts b s i).1 ++ [(rInt b maxI (rInts b s i).2).1], (rInt b maxI (rInts b s i).2).2)
theorem rInts_len (b : List UInt8) (s : Rs) : ∀ i, (rInts b s i).1.length = i
  | 0 => rfl
  | i + 1 => by rw [rInts, List.length_append, List.length_singleton, rInts_len b s i]
theorem rInts_ok2 {b : List UInt8} {s : Rs} (h : RsOk2 b s) : ∀ i, RsOk2 b (rInts b s i).2
  | 0 => h
  | i + 1 => rInt_ok2 (rInts_ok2 h i)
theorem rInts_le {b : List UInt8} {s : Rs} : ∀ i, ∀ x ∈ (rInts b s i).1, x ≤ maxI
  | 0, x, hx => absurd hx (by simp [rInts])
  | i + 1, x, hx => by
    rw [rInts] at hx
    rcases List.mem_append.1 hx with hx | hx
    · exact rInts_le i x hx
    · rw [List.mem_singleton.1 hx]; exact rInt_le
/-- the first number of a body -/
def numberR (b : List UInt8) : Int := if (rInt b maxI ⟨0, 0⟩).2.at_ = 0 then -1 else ((rInt b maxI ⟨0, 0⟩).1 : Int)
/-- of a foot: how many events, the chunks' places; is it one? -/
def footR (b : List UInt8) : Nat × List Nat × Bool :=
  let k := rInts b ⟨0, 0⟩ 3
  if k.1.getD 0 0 ≠ 3 ∨ b.length < k.1.getD 2 0 then (0, [], false)
  else
    let l := rInts b k.2 (k.1.getD 2 0)
    let h := rText b 32 l.2
    (k.1.getD 1 0, l.1, decide (rEnd b h.2 = 0) && decide (h.1.length = 32))
theorem rdin_3 {W : World} {F : List Seg} {a : Option Addr} {bs : List UInt8} {p n : Nat} (h : RdIn W F a (bs.map B)) (hn : 0 < n) : RdIn W F (subA a 1 p (p + n)) (((bs.drop p).take n).map B) := by
  have h2 := h.subA (sz := 1) (l := p) (m := p + n) (j := n) (fun e => by omega)
  rw [Nat.mul_one, ← List.map_drop, ← List.map_take] at h2
  exact h2

theorem body_ok {W w : World} {F : List Seg} (hN : NibOk W) (H : St W w F) {a : Option Addr} {n c p : Nat} {bs : List UInt8} (hr : RdIn W F a (bs.map B)) (hl : bs.length = n) (hcp : bs.length ≤ c) (hn : n ≤ 140737488355328) (hp : p ≤ n) :
    Ok Tryd.prog 81 [.slice a n c, .int .i64 (p : Int)].toArray w (fun r w' => ∃ a' c', r = .tuple #[.slice a' (bodyR bs p).1.length c', .int .i64 (((bodyR bs p).2.1 : Nat) : Int), .int .i64 (((bodyR bs p).2.2 : Nat) : Int)] ∧ St W w' (row 5 1 a' (bodyR bs p).1.length c' ((bodyR bs p).1.map B) :: F)) := by
  subst hl
  refine enter (n := 69) (rs := #[.tmp 4, .tmp 5, .tmp 6]) Tryd.func81 rfl rfl rfl rfl ?_
  refine w_seq ?_
  refine w_region ?_
  refine l_pslice rfl rfl ?_
  refine l_pint rfl rfl ?_
  refine l_pint rfl rfl ?_
  refine l_nil ?_
  refine w_seq ?_
  refine w_region ?_
  refine l_pslice rfl rfl ?_
  refine l_v rfl (q_lenSlice rfl el_28 rfl) ?_
  refine l_pint rfl rfl ?_
  first | refine l_v rfl (q_sub rfl rfl rfl (by simp only [inK]; omega)) ?_ | refine l_pint rfl rfl ?_
  refine l_pint rfl rfl ?_
  refine l_nil ?_
  refine w_seq ?_
  refine w_seq ?_
  refine w_region ?_
  refine l_pint rfl rfl ?_
  refine l_pbool rfl rfl ?_
  refine l_nil ?_
  refine w_cond rfl (fun c1 => ?_) (fun c1 => ?_)
  · try simp only [sH] at c1
    refine w_seq ?_
    refine w_region ?_
    refine l_pslice rfl rfl ?_
    refine l_pint rfl rfl ?_
    refine l_pint rfl rfl ?_
    refine l_nil ?_
    refine w_ret ?_
    refine fin3 rfl rfl rfl ?_
    have e : bodyR bs p = ([], 0, 222) := if_pos (by omega)
    rw [e]
    exact ⟨none, 0, rfl, St.newRow H⟩
  · try simp only [sH] at c1
    refine w_skip ?_
    refine w_seq ?_
    refine w_seq ?_
    refine w_region ?_
    refine l_pslice rfl rfl ?_
    refine l_pint rfl rfl ?_
    refine l_pint rfl rfl ?_
    first | refine l_v rfl (q_add rfl rfl rfl (by simp only [inK]; omega)) ?_ | refine l_pint rfl rfl ?_
    refine l_v rfl (q_slice (l := p) (h := p + 4) (m := c) rfl el_28 rfl Bnd.none (by have h := @Bnd.mk .i64 ((p : Int) + 4) bs.length c ⟨by omega, by omega⟩; rwa [show ((p : Int) + 4).toNat = p + 4 by omega] at h) (Bnd.nat (by omega)) (by simp)) ?_
    refine l_v rfl (q_bytesStr (bs := (bs.drop p).take 4) rfl by_28 st_9 rfl (rd_part (p := p) (n := 4) (hr.use H 0 rfl) hcp (by omega)) (by rw [List.length_take, List.length_drop]; omega)) ?_
    refine l_v rfl (q_pure (s_neq rfl rfl)) ?_
    refine l_nil ?_
    refine w_cond rfl (fun c2 => ?_) (fun c2 => ?_)
    · try simp only [sH] at c2
      refine w_seq ?_
      refine w_region ?_
      refine l_pslice rfl rfl ?_
      refine l_pint rfl rfl ?_
      refine l_pint rfl rfl ?_
      refine l_nil ?_
      refine w_ret ?_
      refine fin3 rfl rfl rfl ?_
      have e : bodyR bs p = ([], 0, 220) := by unfold bodyR; rw [if_neg (by omega), if_pos (show _ ≠ magicL from c2)]
      rw [e]
      exact ⟨none, 0, rfl, St.newRow H⟩
    · try simp only [sH] at c2
      have hq4 : ((bs.drop (p + 4)).take 4).length = 4 := by rw [List.length_take, List.length_drop]; omega
      have h1 : ¬ bs.length - p < 12 := by omega
      have h2 : (bs.drop p).take 4 = magicL := c2
      refine w_skip ?_
      refine w_seq ?_
      refine w_region ?_
      refine l_pint rfl rfl ?_
      refine l_nil ?_
      refine w_seq ?_
      refine w_seq ?_
      refine w_region ?_
      refine l_pslice rfl rfl ?_
      refine l_pint rfl rfl ?_
      first | refine l_v rfl (q_add rfl rfl rfl (by simp only [inK]; omega)) ?_ | refine l_pint rfl rfl ?_
      refine l_pint rfl rfl ?_
      first | refine l_v rfl (q_add rfl rfl rfl (by simp only [inK]; omega)) ?_ | refine l_pint rfl rfl ?_
      refine l_v rfl (q_slice (l := p + 4) (h := p + 8) (m := c) rfl el_28 rfl Bnd.none (by have h := @Bnd.mk .i64 ((p : Int) + 8) bs.length c ⟨by omega, by omega⟩; rwa [show ((p : Int) + 8).toNat = p + 8 by omega] at h) (by have h := @Bnd.mk .i64 ((p : Int) + 4) 0 (p + 8) ⟨by omega, by omega⟩; rwa [show ((p : Int) + 4).toNat = p + 4 by omega] at h) (by simp)) ?_
      refine l_v rfl (q_lenSlice rfl el_28 rfl) ?_
      refine l_pint rfl rfl ?_
      refine l_nil ?_
      refine w_block ?_
      refine w_loopG (G := Nat) [8, 10, 33, 34, 35, 36, 37, 38, 39, 40, 41, 42] (fun i => [(8, .int .i64 ((numB (((bs.drop (p + 4)).take 4).take i) : Nat) : Int)), (33, .int .i64 ((i : Nat) : Int))]) (fun m i w => m + i = 4 ∧ St W w F) (fun _ => rfl) ?_ ?_
      · exact ⟨4, 0, ⟨rfl, rfl, trivial⟩, rfl, H⟩
      · rintro m i ρ1 w ⟨hmi, H⟩
        refine w_seq ?_
        refine w_region ?_
        refine l_pbool rfl rfl ?_
        refine l_nil ?_
        refine w_seq ?_
        refine w_cond rfl (fun c3 => ?_) (fun c3 => ?_)
        · try simp only [sH] at c3
          have hqr := rd_part (p := p + 4) (n := 4) (hr.use H 0 rfl) hcp (by omega)
          obtain ⟨qb, qo, hqa, _⟩ := by_cell hqr (j := i) (by omega)
          have hk8 := numB_4 (l := ((bs.drop (p + 4)).take 4).take i) (by rw [List.length_take]; omega)
          have hx := (((bs.drop (p + 4)).take 4)[i]'(by omega)).toNat_lt
          refine w_skip ?_
          refine w_seq ?_
          refine w_block ?_
          refine w_seq ?_
          refine w_region ?_
          refine l_v rfl (q_indexSliceE i rfl el_28 rfl hqa rfl rfl (by omega)) ?_
          refine l_v rfl (q_load1 rfl c1_5 rfl (by_at hqa hqr (by omega))) ?_
          first | refine l_p (v := B _) rfl rfl ?_ | refine l_pint rfl rfl ?_
          refine l_nil ?_
          refine w_region ?_
          refine l_pint rfl rfl ?_
          refine l_v rfl (q_pure (i64_shl8 rfl rfl (by omega))) ?_
          first | refine l_p (v := B _) rfl rfl ?_ | refine l_pint rfl rfl ?_
          refine l_v rfl (q_convIntIn rfl (by kernel_rfl) in_3 rfl (by simp only [inK]; omega)) ?_
          refine l_v rfl (q_pure (i64_orb rfl rfl hx (by omega))) ?_
          refine l_pint rfl rfl ?_
          refine l_nil ?_
          refine w_region ?_
          first | refine l_v rfl (q_add rfl rfl rfl (by simp only [inK]; omega)) ?_ | refine l_pint rfl rfl ?_
          refine l_pint rfl rfl ?_
          refine l_nil ?_
          refine ⟨by repeat' first | exact aM | exact aR | refine aI rfl ?_ | refine aU rfl ?_ | refine aL rfl ?_, ?_⟩
          refine ⟨m - 1, i + 1, by omega, ⟨congrArg (fun z : Nat => Value.int .i64 (z : Int)) (numB_take (by omega)).symm, by exact congrArg (Value.int IntKind.i64) (Int.natCast_succ i).symm, trivial⟩, by omega, H⟩
        · try simp only [sH] at c3
          obtain rfl : i = 4 := by omega
          have hqt : ((bs.drop (p + 4)).take 4).take 4 = ((bs.drop (p + 4)).take 4) := List.take_of_length_le (by omega)
          rw [hqt]
          have hn4 := numB_4 (l := ((bs.drop (p + 4)).take 4)) (by omega)
          refine w_exit ?_
          refine w_seq ?_
          refine w_seq ?_
          refine w_region ?_
          refine l_pint rfl rfl ?_
          refine l_pbool rfl rfl ?_
          refine l_nil ?_
          refine w_cond rfl (fun c4 => ?_) (fun c4 => ?_)
          · try simp only [sH] at c4
            refine w_seq ?_
            refine w_region ?_
            refine l_pslice rfl rfl ?_
            refine l_pint rfl rfl ?_
            refine l_pint rfl rfl ?_
            refine l_nil ?_
            refine w_ret ?_
            refine fin3 rfl rfl rfl ?_
            have e : bodyR bs p = ([], 0, 220) := by unfold bodyR; rw [if_neg h1, if_neg (by simpa using h2), if_pos (by omega)]
            rw [e]
            exact ⟨none, 0, rfl, St.newRow H⟩
          · try simp only [sH] at c4
            refine w_skip ?_
            refine w_seq ?_
            refine w_seq ?_
            refine w_region ?_
            refine l_pint rfl rfl ?_
            refine l_pint rfl rfl ?_
            first | refine l_v rfl (q_add rfl rfl rfl (by simp only [inK]; omega)) ?_ | refine l_pint rfl rfl ?_
            refine l_pbool rfl rfl ?_
            refine l_nil ?_
            refine w_cond rfl (fun c5 => ?_) (fun c5 => ?_)
            · try simp only [sH] at c5
              refine w_seq ?_
              refine w_region ?_
              refine l_pslice rfl rfl ?_
              refine l_pint rfl rfl ?_
              refine l_pint rfl rfl ?_
              refine l_nil ?_
              refine w_ret ?_
              refine fin3 rfl rfl rfl ?_
              have e : bodyR bs p = ([], 0, 222) := by unfold bodyR; rw [if_neg h1, if_neg (by simpa using h2), if_neg (by omega), if_pos (by omega)]
              rw [e]
              exact ⟨none, 0, rfl, St.newRow H⟩
            · try simp only [sH] at c5
              refine w_skip ?_
              refine w_seq ?_
              refine w_region ?_
              refine l_pslice rfl rfl ?_
              refine l_pint rfl rfl ?_
              refine l_pint rfl rfl ?_
              refine l_pint rfl rfl ?_
              first | refine l_v rfl (q_add rfl rfl rfl (by simp only [inK]; omega)) ?_ | refine l_pint rfl rfl ?_
              first | refine l_v rfl (q_add rfl rfl rfl (by simp only [inK]; omega)) ?_ | refine l_pint rfl rfl ?_
              refine l_pint rfl rfl ?_
              refine l_pint rfl rfl ?_
              first | refine l_v rfl (q_add rfl rfl rfl (by simp only [inK]; omega)) ?_ | refine l_pint rfl rfl ?_
              first | refine l_v rfl (q_add rfl rfl rfl (by simp only [inK]; omega)) ?_ | refine l_pint rfl rfl ?_
              refine l_v rfl (q_slice (l := p) (h := p + (numB ((bs.drop (p + 4)).take 4) + 12)) (m := p + (numB ((bs.drop (p + 4)).take 4) + 12)) rfl el_28 rfl (by have h := @Bnd.mk .i64 ((p : Int) + (numB ((bs.drop (p + 4)).take 4) : Int) + 12) c c ⟨by omega, by omega⟩; rwa [show ((p : Int) + (numB ((bs.drop (p + 4)).take 4) : Int) + 12).toNat = p + (numB ((bs.drop (p + 4)).take 4) + 12) by omega] at h) (by have h := @Bnd.mk .i64 ((p : Int) + (numB ((bs.drop (p + 4)).take 4) : Int) + 12) bs.length (p + (numB ((bs.drop (p + 4)).take 4) + 12)) ⟨by omega, by omega⟩; rwa [show ((p : Int) + (numB ((bs.drop (p + 4)).take 4) : Int) + 12).toNat = p + (numB ((bs.drop (p + 4)).take 4) + 12) by omega] at h) (Bnd.nat (by omega)) (by simp)) ?_
              refine b_call rfl cb_116 rfl (Open_ok (bs := ((bs.drop p).take (numB ((bs.drop (p + 4)).take 4) + 12))) hN H (rdin_3 hr (by omega)) (by rw [List.length_take, List.length_drop]; omega) (by rw [List.length_take, List.length_drop]; omega) (by omega)) (fun v w hv => ?_)
              obtain ⟨a61, c61, rfl, H⟩ := hv
              refine l_ptup rfl rfl ?_
              refine l_pslice rfl rfl ?_
              refine l_pint rfl rfl ?_
              refine l_pslice rfl rfl ?_
              refine l_pint rfl rfl ?_
              refine l_nil ?_
              refine w_seq ?_
              refine w_seq ?_
              refine w_region ?_
              refine l_pint rfl rfl ?_
              refine l_pbool rfl rfl ?_
              refine l_nil ?_
              refine w_cond rfl (fun c6 => ?_) (fun c6 => ?_)
              · try simp only [sH] at c6
                refine w_seq ?_
                refine w_region ?_
                refine l_pslice rfl rfl ?_
                refine l_pint rfl rfl ?_
                refine l_pint rfl rfl ?_
                refine l_nil ?_
                refine w_ret ?_
                refine fin3 rfl rfl rfl ?_
                have e : bodyR bs p = ([], 0, 220) := by unfold bodyR; rw [if_neg h1, if_neg (by simpa using h2), if_neg (by omega), if_neg (by omega), if_pos (by omega)]
                rw [e]
                exact ⟨none, 0, rfl, St.newRow H.drop1⟩
              · try simp only [sH] at c6
                refine w_skip ?_
                refine w_seq ?_
                refine w_region ?_
                refine l_pslice rfl rfl ?_
                refine l_pint rfl rfl ?_
                first | refine l_v rfl (q_add rfl rfl rfl (by simp only [inK]; omega)) ?_ | refine l_pint rfl rfl ?_
                refine l_pslice rfl rfl ?_
                refine l_pint rfl rfl ?_
                refine l_pint rfl rfl ?_
                refine l_nil ?_
                refine w_ret ?_
                refine fin3 rfl rfl rfl ?_
                have e : bodyR bs p = ((openR ((bs.drop p).take (numB ((bs.drop (p + 4)).take 4) + 12))).1, numB ((bs.drop (p + 4)).take 4) + 12, 0) := by unfold bodyR; rw [if_neg h1, if_neg (by simpa using h2), if_neg (by omega), if_neg (by omega), if_neg (by omega)]
                rw [e]
                exact ⟨a61, c61, rfl, H⟩

theorem number_ok {W w : World} {F : List Seg} (H : St W w F) {a : Option Addr} {n c : Nat} {bs : List UInt8} (hr : RdIn W F a (bs.map B)) (hl : bs.length = n) (hn : n ≤ 140737488355328) :
    Ok Tryd.prog 106 [.slice a n c].toArray w (fun r w' => r = I (numberR bs) ∧ St W w' F) := by
  refine enter (n := 13) (rs := #[.tmp 2]) Tryd.func106 rfl rfl rfl rfl ?_
  refine w_seq ?_
  refine w_region ?_
  refine l_pint rfl rfl ?_
  refine l_nil ?_
  refine w_seq ?_
  refine w_region ?_
  refine l_pslice rfl rfl ?_
  refine b_call rfl cb_50 rfl (NewReader_ok H hr hl hn) (fun v w hv => ?_)
  obtain ⟨rb, ra, rc, rfl, H⟩ := hv
  refine l_pptr rfl rfl ?_
  refine l_nil ?_
  refine w_seq ?_
  refine w_region ?_
  refine l_pptr rfl rfl ?_
  refine b_call rfl cb_51 rfl (RIntM_ok H (rs0 bs) (by omega)) (fun v w hv => ?_)
  obtain ⟨rfl, H⟩ := hv
  refine l_pint rfl rfl ?_
  refine l_nil ?_
  refine w_seq ?_
  refine w_seq ?_
  refine w_region ?_
  refine l_pptr rfl rfl ?_
  refine b_call rfl cb_52 rfl (RAt_ok H) (fun v w hv => ?_)
  obtain ⟨rfl, H⟩ := hv
  refine l_pbool rfl rfl ?_
  refine l_nil ?_
  refine w_cond rfl (fun c1 => ?_) (fun c1 => ?_)
  · try simp only [sH] at c1
    refine w_seq ?_
    refine w_region ?_
    refine l_pint rfl rfl ?_
    refine l_nil ?_
    refine w_ret ?_
    refine fin1 (v := .int _ _) rfl ?_
    refine ⟨?_, H.drop1.drop1⟩
    unfold numberR
    rw [if_pos (by omega)]
  · try simp only [sH] at c1
    refine w_skip ?_
    refine w_seq ?_
    refine w_region ?_
    refine l_pint rfl rfl ?_
    refine l_pint rfl rfl ?_
    refine l_nil ?_
    refine w_ret ?_
    refine fin1 (v := .int _ _) rfl ?_
    refine ⟨?_, H.drop1.drop1⟩
    unfold numberR
    rw [if_neg (by omega)] <;> rfl

theorem footOf_ok {W w : World} {F : List Seg} (H : St W w F) {a : Option Addr} {n c : Nat} {bs : List UInt8} (hr : RdIn W F a (bs.map B)) (hl : bs.length = n) (hn : n ≤ 100000) :
    Ok Tryd.prog 108 [.slice a n c].toArray w (fun r w' => ∃ a' c', r = .tuple #[.int .i64 ((footR bs).1 : Int), .slice a' (footR bs).2.1.length c', .bool (footR bs).2.2] ∧ St W w' (row 3 1 a' (footR bs).2.1.length c' (natsV (footR bs).2.1) :: F)) := by
  subst hl
  have hl1 := rInt_le (b := bs) (m := maxI) (s := ⟨0, 0⟩)
  refine enter (n := 48) (rs := #[.tmp 2, .tmp 3, .tmp 4]) Tryd.func108 rfl rfl rfl rfl ?_
  refine w_seq ?_
  refine w_region ?_
  refine l_pint rfl rfl ?_
  refine l_pslice rfl rfl ?_
  refine l_pbool rfl rfl ?_
  refine l_nil ?_
  refine w_seq ?_
  refine w_region ?_
  refine l_pslice rfl rfl ?_
  refine b_call rfl cb_50 rfl (NewReader_ok H hr rfl (by omega)) (fun v w hv => ?_)
  obtain ⟨rb, ra, rc, rfl, H⟩ := hv
  refine l_pptr rfl rfl ?_
  refine l_nil ?_
  refine w_seq ?_
  refine w_region ?_
  refine l_pptr rfl rfl ?_
  refine b_call rfl cb_51 rfl (RIntM_ok H (rs0 bs) (by omega)) (fun v w hv => ?_)
  obtain ⟨rfl, H⟩ := hv
  refine l_pptr rfl rfl ?_
  refine b_call rfl cb_51 rfl (RIntM_ok H (rInt_ok2 (rs0 bs)) (by omega)) (fun v w hv => ?_)
  obtain ⟨rfl, H⟩ := hv
  refine l_pptr rfl rfl ?_
  refine b_call rfl cb_51 rfl (RIntM_ok H (rInt_ok2 (rInt_ok2 (rs0 bs))) (by omega)) (fun v w hv => ?_)
  obtain ⟨rfl, H⟩ := hv
  have H : St W w (readerL rb ra rc bs (rInts bs ⟨0, 0⟩ 3).2 F) := H
  refine l_pint rfl rfl ?_
  refine l_pint rfl rfl ?_
  refine l_pint rfl rfl ?_
  refine l_nil ?_
  refine w_seq ?_
  refine w_seq ?_
  refine w_region ?_
  refine l_pint rfl rfl ?_
  refine l_pbool rfl rfl ?_
  refine l_pbool rfl rfl ?_
  refine l_split 21 rfl (fun h21 => ?_) (fun h21 => ?_)
  · try simp only [sH] at h21
    refine l_no rfl ?_
    refine l_no rfl ?_
    refine l_no rfl ?_
    refine l_no rfl ?_
    refine l_pickT (v := .bool _) rfl rfl rfl ?_
    refine l_nil ?_
    refine w_cond_t rfl ?_
    refine w_seq ?_
    refine w_region ?_
    refine l_pint rfl rfl ?_
    refine l_pslice rfl rfl ?_
    refine l_pbool rfl rfl ?_
    refine l_nil ?_
    refine w_ret ?_
    refine fin3 rfl rfl rfl ?_
    have hk3 : (rInts bs ⟨0, 0⟩ 3).1.getD 0 0 ≠ 3 ∨ bs.length < ((rInts bs ⟨0, 0⟩ 3).1.getD 2 0) := by
      have e0 : (rInts bs ⟨0, 0⟩ 3).1.getD 0 0 = (rInt bs maxI ⟨0, 0⟩).1 := rfl
      have e2 : ((rInts bs ⟨0, 0⟩ 3).1.getD 2 0) = (rInt bs maxI (rInt bs maxI (rInt bs maxI ⟨0, 0⟩).2).2).1 := rfl
      rw [e0, e2]; omega
    have e : footR bs = (0, [], false) := by unfold footR; exact if_pos hk3
    rw [e]
    exact ⟨none, 0, rfl, St.newRow H.drop1.drop1⟩
  · try simp only [sH] at h21
    refine l_pint rfl rfl ?_
    refine l_pslice rfl rfl ?_
    refine l_v rfl (q_lenSlice rfl el_28 rfl) ?_
    refine l_pbool rfl rfl ?_
    refine l_pickF (v := .bool _) rfl rfl rfl ?_
    refine l_nil ?_
    refine w_cond rfl (fun c1 => ?_) (fun c1 => ?_)
    · try simp only [sH] at c1
      refine w_seq ?_
      refine w_region ?_
      refine l_pint rfl rfl ?_
      refine l_pslice rfl rfl ?_
      refine l_pbool rfl rfl ?_
      refine l_nil ?_
      refine w_ret ?_
      refine fin3 rfl rfl rfl ?_
      have hk3 : (rInts bs ⟨0, 0⟩ 3).1.getD 0 0 ≠ 3 ∨ bs.length < ((rInts bs ⟨0, 0⟩ 3).1.getD 2 0) := by
        have e0 : (rInts bs ⟨0, 0⟩ 3).1.getD 0 0 = (rInt bs maxI ⟨0, 0⟩).1 := rfl
        have e2 : ((rInts bs ⟨0, 0⟩ 3).1.getD 2 0) = (rInt bs maxI (rInt bs maxI (rInt bs maxI ⟨0, 0⟩).2).2).1 := rfl
        rw [e0, e2]; omega
      have e : footR bs = (0, [], false) := by unfold footR; exact if_pos hk3
      rw [e]
      exact ⟨none, 0, rfl, St.newRow H.drop1.drop1⟩
    · try simp only [sH] at c1
      have hk3 : ¬ ((rInts bs ⟨0, 0⟩ 3).1.getD 0 0 ≠ 3 ∨ bs.length < ((rInts bs ⟨0, 0⟩ 3).1.getD 2 0)) := by
        have e0 : (rInts bs ⟨0, 0⟩ 3).1.getD 0 0 = (rInt bs maxI ⟨0, 0⟩).1 := rfl
        have e2 : ((rInts bs ⟨0, 0⟩ 3).1.getD 2 0) = (rInt bs maxI (rInt bs maxI (rInt bs maxI ⟨0, 0⟩).2).2).1 := rfl
        rw [e0, e2]; omega
      have e2 : ((rInts bs ⟨0, 0⟩ 3).1.getD 2 0) = (rInt bs maxI (rInt bs maxI (rInt bs maxI ⟨0, 0⟩).2).2).1 := rfl
      have hn2 : ((rInts bs ⟨0, 0⟩ 3).1.getD 2 0) ≤ bs.length := by omega
      refine w_skip ?_
      refine w_seq ?_
      refine w_region ?_
      refine l_pslice rfl rfl ?_
      refine l_nil ?_
      refine w_seq ?_
      refine w_seq ?_
      refine w_region ?_
      refine l_pint rfl rfl ?_
      refine l_pint rfl rfl ?_
      refine l_nil ?_
      refine w_block ?_
      refine w_loopG (G := Nat × Option Addr × Nat) [9, 28, 29, 30, 31, 32, 33, 34, 35] (fun ⟨i, la, lc⟩ => [(9, .slice la i lc), (28, .int .i64 ((i : Nat) : Int))]) (fun m ⟨i, la, lc⟩ w => m + i = ((rInts bs ⟨0, 0⟩ 3).1.getD 2 0) ∧ St W w (readerL rb ra rc bs (rInts bs (rInts bs ⟨0, 0⟩ 3).2 i).2 (row 3 1 la i lc (natsV (rInts bs (rInts bs ⟨0, 0⟩ 3).2 i).1) :: F))) (fun _ => rfl) ?_ ?_
      · exact ⟨((rInts bs ⟨0, 0⟩ 3).1.getD 2 0), (0, none, 0), ⟨rfl, rfl, trivial⟩, rfl, St.pick [1, 2, 0] (pre := [_, _, _]) rfl (St.newRow (T := 3) (sz := 1) H) rfl⟩
      · rintro m ⟨i, la, lc⟩ ρ1 w ⟨hmi, H⟩
        refine w_seq ?_
        refine w_region ?_
        refine l_pbool rfl rfl ?_
        refine l_nil ?_
        refine w_seq ?_
        refine w_cond rfl (fun c2 => ?_) (fun c2 => ?_)
        · try simp only [sH] at c2
          refine w_skip ?_
          refine w_seq ?_
          refine w_block ?_
          refine w_region ?_
          refine l_pslice rfl rfl ?_
          refine l_pptr rfl rfl ?_
          refine b_call rfl cb_51 rfl (RIntM_ok H (rInts_ok2 (rInts_ok2 (rs0 bs) 3) i) (by omega)) (fun v w hv => ?_)
          obtain ⟨rfl, H⟩ := hv
          refine b_buildSlice (cs := [I ((rInt bs maxI (rInts bs (rInts bs ⟨0, 0⟩ 3).2 i).2).1 : Int)]) rfl el_66 ze_3 rfl rfl rfl H (fun b33 w H => ?_)
          refine b_append rfl el_66 ze_3 rfl rfl rfl H 3 rfl (Rd.mk (H.cells0 0 rfl)) rfl (fun u hu => by obtain rfl := List.mem_singleton.1 hu; rfl) ⟨by omega, by simp only [maxLen]; omega⟩ (fun a34 c34 w H => ?_)
          refine l_pslice rfl rfl ?_
          refine l_nil ?_
          refine w_region ?_
          first | refine l_v rfl (q_add rfl rfl rfl (by simp only [inK]; omega)) ?_ | refine l_pint rfl rfl ?_
          refine l_pint rfl rfl ?_
          refine l_nil ?_
          refine ⟨by repeat' first | exact aM | exact aR | refine aI rfl ?_ | refine aU rfl ?_ | refine aL rfl ?_, ?_⟩
          refine ⟨m - 1, (i + 1, a34, c34), by omega, ⟨rfl, by exact congrArg (Value.int IntKind.i64) (Int.natCast_succ i).symm, trivial⟩, by omega, ?_⟩
          rw [rInts]
          unfold natsV at H ⊢
          rw [List.map_append]
          exact H.drop1
        · try simp only [sH] at c2
          obtain rfl : i = ((rInts bs ⟨0, 0⟩ 3).1.getD 2 0) := by omega
          refine w_exit ?_
          refine w_seq ?_
          refine w_region ?_
          refine l_pptr rfl rfl ?_
          refine b_call rfl cb_55 rfl (RText_ok (mo := 32) H (rInts_ok2 (rInts_ok2 (rs0 bs) 3) ((rInts bs ⟨0, 0⟩ 3).1.getD 2 0)) (by omega) (by decide)) (fun v w hv => ?_)
          obtain ⟨rfl, H⟩ := hv
          refine l_pstr rfl rfl ?_
          refine l_nil ?_
          refine w_seq ?_
          refine w_region ?_
          refine l_pint rfl rfl ?_
          refine l_pslice rfl rfl ?_
          refine l_pptr rfl rfl ?_
          refine b_call rfl cb_53 rfl (REnd_ok H) (fun v w hv => ?_)
          obtain ⟨rfl, H⟩ := hv
          refine l_pbool rfl rfl ?_
          refine l_pbool rfl rfl ?_
          refine l_split 43 rfl (fun h43 => ?_) (fun h43 => ?_)
          · try simp only [sH] at h43
            refine l_pstr rfl rfl ?_
            refine l_v rfl (q_lenStr rfl st_9 rfl) ?_
            refine l_pbool rfl rfl ?_
            refine l_pickT (v := .bool _) rfl rfl rfl ?_
            refine l_pint rfl rfl ?_
            refine l_pslice rfl rfl ?_
            refine l_pbool rfl rfl ?_
            refine l_nil ?_
            refine w_ret ?_
            refine fin3 rfl rfl rfl ?_
            have e : footR bs = ((rInts bs ⟨0, 0⟩ 3).1.getD 1 0, (rInts bs (rInts bs ⟨0, 0⟩ 3).2 ((rInts bs ⟨0, 0⟩ 3).1.getD 2 0)).1, decide (rEnd bs (rText bs 32 (rInts bs (rInts bs ⟨0, 0⟩ 3).2 ((rInts bs ⟨0, 0⟩ 3).1.getD 2 0)).2).2 = 0) && decide ((rText bs 32 (rInts bs (rInts bs ⟨0, 0⟩ 3).2 ((rInts bs ⟨0, 0⟩ 3).1.getD 2 0)).2).1.length = 32)) := by unfold footR; exact if_neg hk3
            have e2 : ((rInts bs (rInts bs ⟨0, 0⟩ 3).2 ((rInts bs ⟨0, 0⟩ 3).1.getD 2 0)).1).length = ((rInts bs ⟨0, 0⟩ 3).1.getD 2 0) := rInts_len _ _ _
            rw [e]
            refine ⟨la, lc, ?_, ?_⟩
            · rw [e2]
              refine congrArg (fun z => Value.tuple #[_, _, .bool z]) ?_
              rw [decide_eq_true (show rEnd bs (rText bs 32 (rInts bs (rInts bs ⟨0, 0⟩ 3).2 ((rInts bs ⟨0, 0⟩ 3).1.getD 2 0)).2).2 = 0 by omega), Bool.true_and]
              have hs : (⟨(rText bs 32 (rInts bs (rInts bs ⟨0, 0⟩ 3).2 ((rInts bs ⟨0, 0⟩ 3).1.getD 2 0)).2).1.toArray⟩ : ByteArray).size = (rText bs 32 (rInts bs (rInts bs ⟨0, 0⟩ 3).2 ((rInts bs ⟨0, 0⟩ 3).1.getD 2 0)).2).1.length := rfl
              show (((⟨(rText bs 32 (rInts bs (rInts bs ⟨0, 0⟩ 3).2 ((rInts bs ⟨0, 0⟩ 3).1.getD 2 0)).2).1.toArray⟩ : ByteArray).size : Int) == 32) = _
              rw [Bool.eq_iff_iff, beq_iff_eq, decide_eq_true_iff]; omega
            · rw [e2]; exact H.drop1.drop1
          · try simp only [sH] at h43
            refine l_no rfl ?_
            refine l_no rfl ?_
            refine l_no rfl ?_
            refine l_pickF (v := .bool _) rfl rfl rfl ?_
            refine l_pint rfl rfl ?_
            refine l_pslice rfl rfl ?_
            refine l_pbool rfl rfl ?_
            refine l_nil ?_
            refine w_ret ?_
            refine fin3 rfl rfl rfl ?_
            have e : footR bs = ((rInts bs ⟨0, 0⟩ 3).1.getD 1 0, (rInts bs (rInts bs ⟨0, 0⟩ 3).2 ((rInts bs ⟨0, 0⟩ 3).1.getD 2 0)).1, decide (rEnd bs (rText bs 32 (rInts bs (rInts bs ⟨0, 0⟩ 3).2 ((rInts bs ⟨0, 0⟩ 3).1.getD 2 0)).2).2 = 0) && decide ((rText bs 32 (rInts bs (rInts bs ⟨0, 0⟩ 3).2 ((rInts bs ⟨0, 0⟩ 3).1.getD 2 0)).2).1.length = 32)) := by unfold footR; exact if_neg hk3
            have e2 : ((rInts bs (rInts bs ⟨0, 0⟩ 3).2 ((rInts bs ⟨0, 0⟩ 3).1.getD 2 0)).1).length = ((rInts bs ⟨0, 0⟩ 3).1.getD 2 0) := rInts_len _ _ _
            rw [e]
            refine ⟨la, lc, ?_, ?_⟩
            · rw [e2]
              refine congrArg (fun z => Value.tuple #[_, _, .bool z]) ?_
              rw [decide_eq_false (show ¬ rEnd bs (rText bs 32 (rInts bs (rInts bs ⟨0, 0⟩ 3).2 ((rInts bs ⟨0, 0⟩ 3).1.getD 2 0)).2).2 = 0 by omega), Bool.false_and]
            · rw [e2]; exact H.drop1.drop1

end Go.Proofs.YtfpmnhmdphaceaaDoor
